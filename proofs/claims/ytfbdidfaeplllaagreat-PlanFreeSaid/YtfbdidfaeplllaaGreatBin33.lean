/- Fewer rocks, more battery, a later deadline: plain laws. No program here. | The head of the laws of layer 32. (Printed by tools/mkhead32.py.) | the example of layer 35, reckoned. | the example of layer 35, walked. | head of the laws of layer 35. | No waits: plain laws. No program here. -/
import Derived.Test.YtfbdidfaeplllaaGreatBin32
import Derived.Test.YtfbdidfaeplllaaGreatBin29
import Derived.Test.YtfbdidfaeplllaaGreatBin24
import Derived.Test.YtfbdidfaeplllaaGreatBin16
import Derived.Test.YtfbdidfaeplllaaGreatBin18
import Derived.Test.YtfbdidfaeplllaaGreatBin12
import Derived.Test.YtfbdidfaeplllaaGreatBin21
import Derived.Test.YtfbdidfaeplllaaGreatBin10
namespace Go.Proofs.YtfbdidfaeplllaaGreat

/-- fewer rocks, another battery, another deadline -/
def eaM (m : Msn) (R : List (List Pt)) (b d : Int) : Msn := { m with rocks := R, battery := b, deadline := d }
section
variable (m : Msn) (R : List (List Pt)) (b d : Int)
theorem ea_rd (l : List Int) : ∀ k, rdA (eaM m R b d) l k = rdA m l k ∧ rdB (eaM m R b d) l k = rdB m l k
  | 0 => ⟨rfl, rfl⟩
  | k + 1 => by
    obtain ⟨ia, -⟩ := ea_rd l k
    have eb : rdB (eaM m R b d) l (k + 1) = rdB m l (k + 1) := by rw [rdB_succ, rdB_succ, ia]; rfl
    refine ⟨?_, eb⟩
    rw [rdA_succ, rdA_succ, eb]
    rfl
theorem ea_us (l : List Int) : ∀ k, usT (eaM m R b d) l k = usT m l k ∧ usE (eaM m R b d) l k = usE m l k
  | 0 => ⟨rfl, rfl⟩
  | k + 1 => by
    obtain ⟨it, ie⟩ := ea_us l k
    simp only [usT, usE, it, ie]
    exact ⟨rfl, rfl⟩
theorem ea_it (a : Nat) : ∀ j, itB (eaM m R b d) a j = itB m a j
  | 0 => rfl
  | j + 1 => by show (wy m.ways (itB (eaM m R b d) a j)).back.toNat = _; rw [ea_it a j]; rfl
theorem ea_depF : ∀ f k, depF (eaM m R b d) f k = depF m f k
  | 0, _ => rfl
  | f + 1, k => by
    simp only [depF]
    rw [ea_depF f]
    rfl
theorem ea_bkR (a : Nat) (r : Int) : ∀ j, bkR (eaM m R b d) a r j = bkR m a r j
  | 0 => rfl
  | j + 1 => by
    show bkR (eaM m R b d) a r j + gLeg m (itB (eaM m R b d) a j) (itB (eaM m R b d) a (j + 1)) = _
    rw [ea_bkR a r j, ea_it, ea_it]; rfl
theorem ea_home (a : Nat) : ∀ j, homeT (eaM m R b d) a j = homeT m a j ∧ homeE (eaM m R b d) a j = homeE m a j
  | 0 => ⟨rfl, rfl⟩
  | j + 1 => by
    obtain ⟨i1, i2⟩ := ea_home a j
    simp only [homeT, homeE, i1, i2, ea_it]
    exact ⟨rfl, rfl⟩
end
section
variable {m : Msn} {R : List (List Pt)} {b d : Int}
theorem hit_none {c : List Pt} {ls : List (List Pt)} : ∀ k, (hitTo c ls k).isSome = false ↔ ∀ j, j < k → touchB c (rk ls j) = false
  | 0 => ⟨fun _ j h => by omega, fun _ => rfl⟩
  | k + 1 => by
    have ih := hit_none (c := c) (ls := ls) k
    simp only [hitTo]
    constructor
    · intro h j hj
      cases hk : (hitTo c ls k).isSome
      · rw [hk] at h
        simp only [Bool.false_eq_true, if_false] at h
        rcases Nat.lt_or_eq_of_le (Nat.le_of_lt_succ hj) with e | e
        · exact ih.1 hk j e
        · rw [e]; cases ht : touchB c (rk ls k)
          · rfl
          · rw [ht] at h; simp at h
      · rw [hk] at h; simp [hk] at h
    · intro h
      have hk := ih.2 fun j hj => h j (by omega)
      rw [hk, h k (by omega)]
      rfl
/-- a rock of the one list is one of the other -/
def Fewer (R ls : List (List Pt)) : Prop := R.length ≤ ls.length ∧ ∀ j, j < R.length → ∃ i, i < ls.length ∧ rk R j = rk ls i
theorem Fewer.ok {ls : List (List Pt)} (h : Fewer R ls) (hv : rocksB ls = true) : rocksB R = true := by
  refine decide_eq_true fun j hj => ?_
  obtain ⟨i, hi, e⟩ := h.2 j hj
  rw [e]
  exact of_decide_eq_true hv i hi
theorem fir_fewer {c : List Pt} {ls : List (List Pt)} (h : Fewer R ls) (hv : rocksB ls = true) (hn : ls.length ≤ 100) (hf : firB c ls = false) : firB c R = false := by
  unfold firB
  by_cases hg : goValid c = true
  · have o1 : okRocks c ls = true := by unfold okRocks; rw [hg, Bool.true_and]; exact hv
    have o2 : okRocks c R = true := by unfold okRocks; rw [hg, Bool.true_and]; exact h.ok hv
    unfold firB at hf
    rw [if_pos ⟨hn, o1⟩] at hf
    rw [if_pos ⟨Nat.le_trans h.1 hn, o2⟩]
    refine (hit_none _).2 fun j hj => ?_
    obtain ⟨i, hi, e⟩ := h.2 j hj
    rw [e]
    exact (hit_none _).1 hf i hi
  · rw [if_neg]
    rintro ⟨-, o⟩
    unfold okRocks at o
    rw [Bool.and_eq_true] at o
    exact hg o.1
variable (hF : Fewer R m.rocks) (V : VMsn m)
include hF V
theorem ea_clr {a c : Nat} {u w : Int} (h : clrB m a u c w = true) : clrB (eaM m R b d) a u c w = true := by
  unfold clrB at h ⊢
  rw [Bool.not_eq_true'] at h ⊢
  exact fir_fewer hF V.rocks V.nr h
theorem ea_bkC {a : Nat} {r : Int} : ∀ j, bkC m a r j = true → bkC (eaM m R b d) a r j = true
  | 0, _ => rfl
  | j + 1, h => by
    simp only [bkC, Bool.and_eq_true] at h ⊢
    rw [ea_it, ea_it, ea_bkR, ea_bkR]
    exact ⟨ea_bkC j h.1, ea_clr hF V h.2⟩
theorem ea_kind {l : List Int} (hb : m.battery ≤ b) (hd : m.deadline ≤ d) {k : Nat} (h : kindV m l k = 0) : kindV (eaM m R b d) l k = 0 := by
  have hdep : dep (eaM m R b d) (k + 1) = dep m (k + 1) := ea_depF m R b d _ _
  have hl : ∀ r, lieB (eaM m R b d) r = lieB m r := fun r => rfl
  unfold kindV at h ⊢
  rw [(ea_rd m R b d l k).1, (ea_rd m R b d l (k + 1)).2, (ea_us m R b d l (k + 1)).1, (ea_us m R b d l (k + 1)).2, hdep, ea_bkR, (ea_home m R b d (k + 1) _).1, (ea_home m R b d (k + 1) _).2, hl]
  by_cases h1 : clrB m k (rdA m l k) (k + 1) (rdB m l (k + 1)) = false
  · rw [if_pos h1] at h; omega
  · rw [if_neg h1] at h
    rw [if_neg (by rw [ea_clr hF V (by simpa using h1)]; simp)]
    by_cases h2 : bkC m (k + 1) (rdB m l (k + 1)) (dep m (k + 1)) = false
    · rw [if_pos h2] at h; omega
    · rw [if_neg h2] at h
      rw [if_neg (by rw [ea_bkC hF V _ (by simpa using h2)]; simp)]
      split at h
      · omega
      · rename_i h3
        rw [if_neg h3]
        split at h
        · omega
        · rename_i h4
          split at h
          · omega
          · rename_i h5
            rw [if_neg (show ¬ usE m l (k + 1) + homeE m (k + 1) (dep m (k + 1)) > (eaM m R b d).battery by show ¬ _ > b; omega), if_neg (show ¬ usT m l (k + 1) + homeT m (k + 1) (dep m (k + 1)) > (eaM m R b d).deadline by show ¬ _ > d; omega)]
theorem ea_lead {l : List Int} (hb : m.battery ≤ b) (hd : m.deadline ≤ d) : leadN m l ≤ leadN (eaM m R b d) l := by
  obtain ⟨a1, a2, a3⟩ := lead_spec m l
  obtain ⟨b1, b2, b3⟩ := lead_spec (eaM m R b d) l
  rcases Nat.lt_or_ge (leadN (eaM m R b d) l) (leadN m l) with e | e
  · exact (b3 (show _ < m.ways.length - 1 by omega) (ea_kind hF V hb hd (a2 _ e))).elim
  · exact e
omit hF V in
theorem ea_grown : grownV (eaM m R b d) = grownV m := by
  have e : ∀ k, grownTo (eaM m R b d) k = grownTo m k := by
    intro k
    induction k with
    | zero => rfl
    | succ k ih =>
      show grownTo (eaM m R b d) k + (gLeg m k (k + 1) + gLeg m (k + 1) (wy m.ways (k + 1)).back.toNat) = _
      rw [ih]; rfl
  exact e _
theorem ea_valid (hb : 0 ≤ b ∧ b ≤ 1000000000) (hd : 0 ≤ d ∧ d ≤ 1000000000) : validB (eaM m R b d) = true :=
  (validB_iff _).2 ⟨V.n2, V.n41, Nat.le_trans hF.1 V.nr, V.ways, V.home, hF.ok V.rocks, V.start, V.leg, V.idle, V.drive, hb, hd, by rw [ea_grown]; exact V.grown⟩
end
theorem ea_stops (m : Msn) (R : List (List Pt)) (b d : Int) (l : List Int) : stopsB (eaM m R b d) l = stopsB m l := rfl
/-- what both calls of Keeps come to -/
theorem easier_law {m : Msn} {R : List (List Pt)} {b d : Int} {l : List Int} (hF : Fewer R m.rocks) (hV : validB m = true) (hb : m.battery ≤ b ∧ b ≤ 1000000000) (hd : m.deadline ≤ d ∧ d ≤ 1000000000) : kpE (eaM m R b d) l = kpE m l ∧ (kpE m l = 0 → kpL m l ≤ kpL (eaM m R b d) l) := by
  have V := (validB_iff m).1 hV
  have e : radOkB (eaM m R b d) l = radOkB m l := by
    unfold radOkB
    rw [hV, ea_valid hF V (by have := V.battery; omega) (by have := V.deadline; omega), ea_stops]
  unfold kpE kpL
  rw [e]
  refine ⟨rfl, fun h => ?_⟩
  cases ho : radOkB m l
  · simp
  · simp only [if_true]
    unfold leadV
    have := ea_lead (l := l) hF V hb.1 hd.1
    omega
end Go.Proofs.YtfbdidfaeplllaaGreat

namespace Go.Proofs.YtfbdidfaeplllaaGreat
open Go.RowKit
attribute [local irreducible] wpQuiet

instance (l : List Pt) (s t : Pt) : Decidable (Nx l s t) := by unfold Nx; infer_instance
def hullB (l h : List Pt) : Bool := decide (l ≠ [] ∧ 1 ≤ h.length ∧ (nth h 0 ∈ l ∧ ∀ x, x ∈ l → ¬ LexLt x (nth h 0)) ∧ (∀ i, i < h.length → Nx l (nth h i) (nth h ((i + 1) % h.length))) ∧ (∀ i, i < h.length → 0 < i → nth h i ≠ nth h 0))
theorem hullB_of {l h : List Pt} (k : hullB l h = true) : hullP l = h := by
  simp only [hullB, decide_eq_true_eq] at k
  obtain ⟨h1, h2, h3, h4, h5⟩ := k
  exact (hullP_eq ⟨fun e => absurd e h1, fun _ => h2, fun _ => h3, h4, fun i h0 hi => h5 i hi h0⟩).symm
theorem disk_0 : diskP 0 = [⟨0, 0⟩] := hullB_of (by decide +kernel)
theorem disk_2 : diskP 2 = [⟨-2, -1⟩, ⟨-1, -2⟩, ⟨1, -2⟩, ⟨2, -1⟩, ⟨2, 1⟩, ⟨1, 2⟩, ⟨-1, 2⟩, ⟨-2, 1⟩] := hullB_of (by decide +kernel)
theorem rdist_of {ax ay bx by' n : Int} (h0 : 0 ≤ n) (h : (ax - bx) * (ax - bx) + (ay - by') * (ay - by') ≤ n * n) (h2 : (n - 1) * (n - 1) < (ax - bx) * (ax - bx) + (ay - by') * (ay - by')) : distV ax ay bx by' = n := by
  unfold distV
  generalize (ax - bx) * (ax - bx) + (ay - by') * (ay - by') = s at *
  have hs := rootUp_spec (s := s) (by
    have : 0 ≤ (n - 1) * (n - 1) := by
      rcases Int.le_total 0 (n - 1) with h | h
      · exact Int.mul_nonneg h h
      · have := Int.mul_nonneg (show 0 ≤ -(n - 1) by omega) (show 0 ≤ -(n - 1) by omega)
        rwa [Int.neg_mul_neg] at this
    omega)
  have h1 := hs.2.2 n h0 h
  rcases Int.lt_or_le (rootUp s) n with h3 | h3
  · have h4 := Int.mul_le_mul (show rootUp s ≤ n - 1 by omega) (show rootUp s ≤ n - 1 by omega) hs.1 (by omega)
    have := hs.2.1
    omega
  · omega
end Go.Proofs.YtfbdidfaeplllaaGreat

namespace Go.Proofs.YtfbdidfaeplllaaGreat


def roX : List Pt := [⟨185, 90⟩, ⟨190, 15⟩, ⟨195, 90⟩]
def hmA : List Pt := [⟨-100, -100⟩, ⟨100, -100⟩, ⟨100, 100⟩, ⟨-100, 100⟩]
def hmB : List Pt := [⟨0, 0⟩]
/-- the mission of the chapter, with a home -/
def exP (h : List Pt) : Msn := ⟨[⟨0, 0, 0, 0, 0⟩, ⟨100, 0, 2, 0, 0⟩, ⟨200, 0, 0, 0, 0⟩], h, 0, [roX], 10000, 100, 0, 0, 0, 1000, 1000⟩
theorem exP_dist (h : List Pt) : dLeg (exP h) 0 1 = 100 ∧ dLeg (exP h) 1 2 = 100 ∧ dLeg (exP h) 1 0 = 100 ∧ dLeg (exP h) 2 0 = 200 :=
  ⟨show distV 0 0 100 0 = 100 from rdist_of (by decide) (by decide) (by decide), show distV 100 0 200 0 = 100 from rdist_of (by decide) (by decide) (by decide), show distV 100 0 0 0 = 100 from rdist_of (by decide) (by decide) (by decide), show distV 200 0 0 0 = 200 from rdist_of (by decide) (by decide) (by decide)⟩
theorem exP_legs (h : List Pt) : gLeg (exP h) 0 1 = 10 ∧ gLeg (exP h) 1 2 = 10 ∧ gLeg (exP h) 1 0 = 10 ∧ gLeg (exP h) 2 0 = 20 := by
  obtain ⟨d1, d2, d3, d4⟩ := exP_dist h
  unfold gLeg
  rw [d1, d2, d3, d4]
  exact ⟨show growthV 10000 100 0 100 = 10 by decide, show growthV 10000 100 0 100 = 10 by decide, show growthV 10000 100 0 100 = 10 by decide, show growthV 10000 100 0 200 = 20 by decide⟩
theorem exP_times (h : List Pt) : tLeg (exP h) 0 1 = 1 ∧ tLeg (exP h) 1 2 = 1 ∧ tLeg (exP h) 1 0 = 1 ∧ tLeg (exP h) 2 0 = 2 := by
  obtain ⟨d1, d2, d3, d4⟩ := exP_dist h
  unfold tLeg
  rw [d1, d2, d3, d4]
  exact ⟨show lastsV 10000 100 = 1 by decide, show lastsV 10000 100 = 1 by decide, show lastsV 10000 100 = 1 by decide, show lastsV 10000 200 = 2 by decide⟩
theorem exP_grown (h : List Pt) : grownV (exP h) = 50 := by
  obtain ⟨g1, g2, g3, g4⟩ := exP_legs h
  show (0 : Int) + (gLeg (exP h) 0 1 + gLeg (exP h) 1 0) + (gLeg (exP h) 1 2 + gLeg (exP h) 2 0) = 50
  rw [g1, g2, g3, g4]
  rfl
theorem roX_valid : goValid roX = true := by rw [goValid_eq]; decide +kernel
theorem hmA_valid : goValid hmA = true := by rw [goValid_eq]; decide +kernel
theorem hmB_valid : goValid hmB = true := by rw [goValid_eq]; decide +kernel
theorem exP_valid {h : List Pt} (hh : goValid h = true) : validB (exP h) = true := by
  rw [validB_iff]
  refine ⟨by show 2 ≤ 3; decide, by show 3 ≤ 41; decide, by show 1 ≤ 100; decide, by show waysB [⟨0, 0, 0, 0, 0⟩, ⟨100, 0, 2, 0, 0⟩, ⟨200, 0, 0, 0, 0⟩] = true; decide, hh, ?_, by show (0 : Int) ≤ 0 ∧ (0 : Int) ≤ 100000; decide, by show (1 : Int) ≤ 10000 ∧ (10000 : Int) ≤ 20000 ∧ (0 : Int) ≤ 100 ∧ (100 : Int) ≤ 500 ∧ (0 : Int) ≤ 0 ∧ (0 : Int) ≤ 5000; decide, by show (0 : Int) ≤ 0 ∧ (0 : Int) ≤ 1000; decide, by show (0 : Int) ≤ 0 ∧ (0 : Int) ≤ 1000; decide, by show (0 : Int) ≤ 1000 ∧ (1000 : Int) ≤ 1000000000; decide, by show (0 : Int) ≤ 1000 ∧ (1000 : Int) ≤ 1000000000; decide, by rw [exP_grown]; decide⟩
  simp only [rocksB, exP]
  refine decide_eq_true fun j hj => ?_
  obtain rfl : j = 0 := by simp at hj; omega
  exact roX_valid
theorem exP_e (h : List Pt) (i j : Nat) : eLeg (exP h) i j = 0 := by simp [eLeg, exP]
theorem clr_of {h : List Pt} {a b : Nat} {u w : Int} {c : List Pt} {t : Bool} (hc : corL (atW (exP h) a) u (atW (exP h) b) w = c) (hv : goValid c = true) (ht : touchB c roX = t) : clrB (exP h) a u b w = !t := by
  unfold clrB
  rw [hc, show (exP h).rocks = [roX] from rfl, (first_one hv roX_valid).1, ht]
set_option maxRecDepth 100000 in
theorem disk_10 : diskP 10 = [⟨-10, -5⟩, ⟨-5, -10⟩, ⟨5, -10⟩, ⟨10, -5⟩, ⟨10, 5⟩, ⟨5, 10⟩, ⟨-5, 10⟩, ⟨-10, 5⟩] := hullB_of (by decide +kernel)
set_option maxRecDepth 100000 in
theorem disk_12 : diskP 12 = [⟨-12, -5⟩, ⟨-5, -12⟩, ⟨5, -12⟩, ⟨12, -5⟩, ⟨12, 5⟩, ⟨5, 12⟩, ⟨-5, 12⟩, ⟨-12, 5⟩] := hullB_of (by decide +kernel)
set_option maxRecDepth 100000 in
theorem disk_20 : diskP 20 = [⟨-20, -9⟩, ⟨-9, -20⟩, ⟨9, -20⟩, ⟨20, -9⟩, ⟨20, 9⟩, ⟨9, 20⟩, ⟨-9, 20⟩, ⟨-20, 9⟩] := hullB_of (by decide +kernel)
set_option maxRecDepth 100000 in
theorem disk_32 : diskP 32 = [⟨-32, -14⟩, ⟨-14, -32⟩, ⟨14, -32⟩, ⟨32, -14⟩, ⟨32, 14⟩, ⟨14, 32⟩, ⟨-14, 32⟩, ⟨-32, 14⟩] := hullB_of (by decide +kernel)
def c1L : List Pt := [⟨0, 0⟩, ⟨95, -10⟩, ⟨105, -10⟩, ⟨110, -5⟩, ⟨110, 5⟩, ⟨105, 10⟩, ⟨95, 10⟩]
theorem c1_valid : goValid c1L = true := by rw [goValid_eq]; decide +kernel
theorem c1_cor : corL ⟨0, 0⟩ 0 ⟨100, 0⟩ 10 = c1L := by
  have e : corE ⟨0, 0⟩ 0 ⟨100, 0⟩ 10 = 0 := by
    unfold corE
    rw [show (0 : Int).toNat = 0 from rfl, show (10 : Int).toNat = 10 from rfl, disk_0, disk_10]
    decide +kernel
  unfold corL
  rw [if_pos e]
  unfold corH
  rw [show (0 : Int).toNat = 0 from rfl, show (10 : Int).toNat = 10 from rfl, disk_0, disk_10]
  exact hullB_of (by decide +kernel)
theorem c1_touch : touchB c1L roX = false := by
  have a : cornersP c1L roX = [] := by unfold cornersP; rw [cornersC_eq roX_valid]; decide +kernel
  have b : cornersP roX c1L = [] := by unfold cornersP; rw [cornersC_eq c1_valid]; decide +kernel
  have c : crossP c1L roX = [] := by decide +kernel
  unfold touchB sharedP
  rw [a, b, c]
  simp
theorem c1_clr (h : List Pt) : clrB (exP h) 0 0 1 10 = true := clr_of (h := h) (a := 0) (b := 1) (u := 0) (w := 10) c1_cor c1_valid c1_touch
def c2L : List Pt := [⟨-20, -9⟩, ⟨-9, -20⟩, ⟨9, -20⟩, ⟨105, -10⟩, ⟨110, -5⟩, ⟨110, 5⟩, ⟨105, 10⟩, ⟨9, 20⟩, ⟨-9, 20⟩, ⟨-20, 9⟩]
theorem c2_valid : goValid c2L = true := by rw [goValid_eq]; decide +kernel
theorem c2_cor : corL ⟨100, 0⟩ 10 ⟨0, 0⟩ 20 = c2L := by
  have e : corE ⟨100, 0⟩ 10 ⟨0, 0⟩ 20 = 0 := by
    unfold corE
    rw [show (10 : Int).toNat = 10 from rfl, show (20 : Int).toNat = 20 from rfl, disk_10, disk_20]
    decide +kernel
  unfold corL
  rw [if_pos e]
  unfold corH
  rw [show (10 : Int).toNat = 10 from rfl, show (20 : Int).toNat = 20 from rfl, disk_10, disk_20]
  exact hullB_of (by decide +kernel)
theorem c2_touch : touchB c2L roX = false := by
  have a : cornersP c2L roX = [] := by unfold cornersP; rw [cornersC_eq roX_valid]; decide +kernel
  have b : cornersP roX c2L = [] := by unfold cornersP; rw [cornersC_eq c2_valid]; decide +kernel
  have c : crossP c2L roX = [] := by decide +kernel
  unfold touchB sharedP
  rw [a, b, c]
  simp
theorem c2_clr (h : List Pt) : clrB (exP h) 1 10 0 20 = true := clr_of (h := h) (a := 1) (b := 0) (u := 10) (w := 20) c2_cor c2_valid c2_touch
def c3L : List Pt := [⟨90, -5⟩, ⟨95, -10⟩, ⟨191, -20⟩, ⟨209, -20⟩, ⟨220, -9⟩, ⟨220, 9⟩, ⟨209, 20⟩, ⟨191, 20⟩, ⟨95, 10⟩, ⟨90, 5⟩]
theorem c3_valid : goValid c3L = true := by rw [goValid_eq]; decide +kernel
theorem c3_cor : corL ⟨100, 0⟩ 10 ⟨200, 0⟩ 20 = c3L := by
  have e : corE ⟨100, 0⟩ 10 ⟨200, 0⟩ 20 = 0 := by
    unfold corE
    rw [show (10 : Int).toNat = 10 from rfl, show (20 : Int).toNat = 20 from rfl, disk_10, disk_20]
    decide +kernel
  unfold corL
  rw [if_pos e]
  unfold corH
  rw [show (10 : Int).toNat = 10 from rfl, show (20 : Int).toNat = 20 from rfl, disk_10, disk_20]
  exact hullB_of (by decide +kernel)
theorem c3_touch : touchB c3L roX = true := by
  have b : cornersP roX c3L = [⟨190, 15⟩] := by unfold cornersP; rw [cornersC_eq c3_valid]; decide +kernel
  unfold touchB sharedP
  rw [b, c3_valid, roX_valid]
  simp
theorem c3_clr (h : List Pt) : clrB (exP h) 1 10 2 20 = false := clr_of (h := h) (a := 1) (b := 2) (u := 10) (w := 20) c3_cor c3_valid c3_touch
def c4L : List Pt := [⟨98, -1⟩, ⟨99, -2⟩, ⟨195, -12⟩, ⟨205, -12⟩, ⟨212, -5⟩, ⟨212, 5⟩, ⟨205, 12⟩, ⟨195, 12⟩, ⟨99, 2⟩, ⟨98, 1⟩]
theorem c4_valid : goValid c4L = true := by rw [goValid_eq]; decide +kernel
theorem c4_cor : corL ⟨100, 0⟩ 2 ⟨200, 0⟩ 12 = c4L := by
  have e : corE ⟨100, 0⟩ 2 ⟨200, 0⟩ 12 = 0 := by
    unfold corE
    rw [show (2 : Int).toNat = 2 from rfl, show (12 : Int).toNat = 12 from rfl, disk_2, disk_12]
    decide +kernel
  unfold corL
  rw [if_pos e]
  unfold corH
  rw [show (2 : Int).toNat = 2 from rfl, show (12 : Int).toNat = 12 from rfl, disk_2, disk_12]
  exact hullB_of (by decide +kernel)
theorem c4_touch : touchB c4L roX = false := by
  have a : cornersP c4L roX = [] := by unfold cornersP; rw [cornersC_eq roX_valid]; decide +kernel
  have b : cornersP roX c4L = [] := by unfold cornersP; rw [cornersC_eq c4_valid]; decide +kernel
  have c : crossP c4L roX = [] := by decide +kernel
  unfold touchB sharedP
  rw [a, b, c]
  simp
theorem c4_clr (h : List Pt) : clrB (exP h) 1 2 2 12 = true := clr_of (h := h) (a := 1) (b := 2) (u := 2) (w := 12) c4_cor c4_valid c4_touch
def c5L : List Pt := [⟨-32, -14⟩, ⟨-14, -32⟩, ⟨14, -32⟩, ⟨205, -12⟩, ⟨212, -5⟩, ⟨212, 5⟩, ⟨205, 12⟩, ⟨14, 32⟩, ⟨-14, 32⟩, ⟨-32, 14⟩]
theorem c5_valid : goValid c5L = true := by rw [goValid_eq]; decide +kernel
theorem c5_cor : corL ⟨200, 0⟩ 12 ⟨0, 0⟩ 32 = c5L := by
  have e : corE ⟨200, 0⟩ 12 ⟨0, 0⟩ 32 = 0 := by
    unfold corE
    rw [show (12 : Int).toNat = 12 from rfl, show (32 : Int).toNat = 32 from rfl, disk_12, disk_32]
    decide +kernel
  unfold corL
  rw [if_pos e]
  unfold corH
  rw [show (12 : Int).toNat = 12 from rfl, show (32 : Int).toNat = 32 from rfl, disk_12, disk_32]
  exact hullB_of (by decide +kernel)
theorem c5_touch : touchB c5L roX = false := by
  have a : cornersP c5L roX = [] := by unfold cornersP; rw [cornersC_eq roX_valid]; decide +kernel
  have b : cornersP roX c5L = [] := by unfold cornersP; rw [cornersC_eq c5_valid]; decide +kernel
  have c : crossP c5L roX = [] := by decide +kernel
  unfold touchB sharedP
  rw [a, b, c]
  simp
theorem c5_clr (h : List Pt) : clrB (exP h) 2 12 0 32 = true := clr_of (h := h) (a := 2) (b := 0) (u := 12) (w := 32) c5_cor c5_valid c5_touch
theorem lie_20_hmA : lieB (exP hmA) 20 = true := by
  unfold lieB
  rw [show (20 : Int).toNat = 20 from rfl, disk_20]
  unfold cornersP
  rw [show (exP hmA).home = hmA from rfl, cornersC_eq hmA_valid]
  decide +kernel
theorem lie_32_hmA : lieB (exP hmA) 32 = true := by
  unfold lieB
  rw [show (32 : Int).toNat = 32 from rfl, disk_32]
  unfold cornersP
  rw [show (exP hmA).home = hmA from rfl, cornersC_eq hmA_valid]
  decide +kernel
theorem lie_20_hmB : lieB (exP hmB) 20 = false := by
  unfold lieB
  rw [show (20 : Int).toNat = 20 from rfl, disk_20]
  unfold cornersP
  rw [show (exP hmB).home = hmB from rfl, cornersC_eq hmB_valid]
  decide +kernel
theorem exP_deps (h : List Pt) : dep (exP h) 1 = 1 ∧ dep (exP h) 2 = 1 := ⟨rfl, rfl⟩
theorem exP_r0 (h : List Pt) : rdA (exP h) [] 0 = 0 ∧ rdB (exP h) [] 1 = 10 ∧ rdA (exP h) [] 1 = 10 ∧ rdB (exP h) [] 2 = 20 := by
  obtain ⟨g1, g2, g3, g4⟩ := exP_legs h
  have a0 : rdA (exP h) [] 0 = 0 := rfl
  have b1 : rdB (exP h) [] 1 = 10 := by rw [rdB_succ, a0, g1]; rfl
  have a1 : rdA (exP h) [] 1 = 10 := by rw [rdA_succ, if_neg (by simp), b1]
  exact ⟨a0, b1, a1, by rw [rdB_succ, a1, g2]; rfl⟩
theorem exP_r1 (h : List Pt) : rdA (exP h) [1] 0 = 0 ∧ rdB (exP h) [1] 1 = 10 ∧ rdA (exP h) [1] 1 = 2 ∧ rdB (exP h) [1] 2 = 12 := by
  obtain ⟨g1, g2, g3, g4⟩ := exP_legs h
  have a0 : rdA (exP h) [1] 0 = 0 := rfl
  have b1 : rdB (exP h) [1] 1 = 10 := by rw [rdB_succ, a0, g1]; rfl
  have a1 : rdA (exP h) [1] 1 = 2 := by rw [rdA_succ, if_pos (by simp), b1]; rfl
  exact ⟨a0, b1, a1, by rw [rdB_succ, a1, g2]; rfl⟩
theorem exP_us (h : List Pt) (l : List Int) : usE (exP h) l 1 = 0 ∧ usE (exP h) l 2 = 0 ∧ usT (exP h) l 1 ≤ 10 ∧ usT (exP h) l 2 ≤ 10 := by
  obtain ⟨t1, t2, t3, t4⟩ := exP_times h
  have w0 : ∀ k, waitT (exP h) l k = 0 := fun k => by
    unfold waitT
    split
    · match k with
      | 0 => rfl
      | 1 => rfl
      | 2 => rfl
      | k + 3 => rfl
    · rfl
  have i0 : (exP h).idle = 0 := rfl
  simp only [usE, usT, w0, exP_e, i0, t1, t2]
  decide
theorem exP_home (h : List Pt) : homeE (exP h) 1 1 = 0 ∧ homeE (exP h) 2 1 = 0 ∧ homeT (exP h) 1 1 = 1 ∧ homeT (exP h) 2 1 = 2 := by
  obtain ⟨t1, t2, t3, t4⟩ := exP_times h
  simp only [homeE, homeT, exP_e]
  refine ⟨rfl, rfl, ?_, ?_⟩
  · show 0 + tLeg (exP h) 1 0 = 1; rw [t3]; rfl
  · show 0 + tLeg (exP h) 2 0 = 2; rw [t4]; rfl
theorem exP_bk (h : List Pt) (r : Int) : bkR (exP h) 1 r 1 = r + 10 ∧ bkR (exP h) 2 r 1 = r + 20 ∧ bkC (exP h) 1 r 1 = clrB (exP h) 1 r 0 (r + 10) ∧ bkC (exP h) 2 r 1 = clrB (exP h) 2 r 0 (r + 20) := by
  obtain ⟨g1, g2, g3, g4⟩ := exP_legs h
  have b1 : bkR (exP h) 1 r 1 = r + 10 := by show r + gLeg (exP h) 1 0 = _; rw [g3]
  have b2 : bkR (exP h) 2 r 1 = r + 20 := by show r + gLeg (exP h) 2 0 = _; rw [g4]
  refine ⟨b1, b2, ?_, ?_⟩
  · show (true && clrB (exP h) 1 r 0 (bkR (exP h) 1 r 1)) = _; rw [b1]; rfl
  · show (true && clrB (exP h) 2 r 0 (bkR (exP h) 2 r 1)) = _; rw [b2]; rfl
theorem exP_lim (h : List Pt) : (exP h).battery = 1000 ∧ (exP h).deadline = 1000 := ⟨rfl, rfl⟩
theorem k0_kind : kindV (exP hmA) [] 0 = 0 := by
  obtain ⟨a0, b1, a1, b2⟩ := exP_r0 hmA
  obtain ⟨d1, d2⟩ := exP_deps hmA
  obtain ⟨u1, u2, u3, u4⟩ := exP_us hmA []
  obtain ⟨h1, h2, h3, h4⟩ := exP_home hmA
  obtain ⟨m1, m2⟩ := exP_lim hmA
  unfold kindV
  obtain ⟨q1, q2, q3, q4⟩ := exP_bk hmA 10
  rw [show (0 : Nat) + 1 = 1 from rfl, a0, b1, c1_clr, d1, q3, q1, show (10 : Int) + 10 = 20 from rfl, c2_clr, lie_20_hmA, if_neg (by decide), if_neg (by decide), if_neg (by decide), u1, h1, m1, h3, m2, if_neg (by decide), if_neg (by omega)]
theorem k1_kind : kindV (exP hmA) [] 1 = 1 := by
  obtain ⟨a0, b1, a1, b2⟩ := exP_r0 hmA
  obtain ⟨d1, d2⟩ := exP_deps hmA
  obtain ⟨u1, u2, u3, u4⟩ := exP_us hmA []
  obtain ⟨h1, h2, h3, h4⟩ := exP_home hmA
  obtain ⟨m1, m2⟩ := exP_lim hmA
  unfold kindV
  rw [show (1 : Nat) + 1 = 2 from rfl, a1, b2, c3_clr, if_pos rfl]
theorem k2_kind : kindV (exP hmA) [1] 0 = 0 := by
  obtain ⟨a0, b1, a1, b2⟩ := exP_r1 hmA
  obtain ⟨d1, d2⟩ := exP_deps hmA
  obtain ⟨u1, u2, u3, u4⟩ := exP_us hmA [1]
  obtain ⟨h1, h2, h3, h4⟩ := exP_home hmA
  obtain ⟨m1, m2⟩ := exP_lim hmA
  unfold kindV
  obtain ⟨q1, q2, q3, q4⟩ := exP_bk hmA 10
  rw [show (0 : Nat) + 1 = 1 from rfl, a0, b1, c1_clr, d1, q3, q1, show (10 : Int) + 10 = 20 from rfl, c2_clr, lie_20_hmA, if_neg (by decide), if_neg (by decide), if_neg (by decide), u1, h1, m1, h3, m2, if_neg (by decide), if_neg (by omega)]
theorem k3_kind : kindV (exP hmA) [1] 1 = 0 := by
  obtain ⟨a0, b1, a1, b2⟩ := exP_r1 hmA
  obtain ⟨d1, d2⟩ := exP_deps hmA
  obtain ⟨u1, u2, u3, u4⟩ := exP_us hmA [1]
  obtain ⟨h1, h2, h3, h4⟩ := exP_home hmA
  obtain ⟨m1, m2⟩ := exP_lim hmA
  unfold kindV
  obtain ⟨q1, q2, q3, q4⟩ := exP_bk hmA 12
  rw [show (1 : Nat) + 1 = 2 from rfl, a1, b2, c4_clr, d2, q4, q2, show (12 : Int) + 20 = 32 from rfl, c5_clr, lie_32_hmA, if_neg (by decide), if_neg (by decide), if_neg (by decide), u2, h2, m1, h4, m2, if_neg (by decide), if_neg (by omega)]
theorem k4_kind : kindV (exP hmB) [] 0 = 2 := by
  obtain ⟨a0, b1, a1, b2⟩ := exP_r0 hmB
  obtain ⟨d1, d2⟩ := exP_deps hmB
  obtain ⟨u1, u2, u3, u4⟩ := exP_us hmB []
  obtain ⟨h1, h2, h3, h4⟩ := exP_home hmB
  obtain ⟨m1, m2⟩ := exP_lim hmB
  unfold kindV
  obtain ⟨q1, q2, q3, q4⟩ := exP_bk hmB 10
  rw [show (0 : Nat) + 1 = 1 from rfl, a0, b1, c1_clr, d1, q3, q1, show (10 : Int) + 10 = 20 from rfl, c2_clr, lie_20_hmB, if_neg (by decide), if_neg (by decide), if_pos rfl]
theorem k5_kind : kindV (exP hmB) [1] 0 = 2 := by
  obtain ⟨a0, b1, a1, b2⟩ := exP_r1 hmB
  obtain ⟨d1, d2⟩ := exP_deps hmB
  obtain ⟨u1, u2, u3, u4⟩ := exP_us hmB [1]
  obtain ⟨h1, h2, h3, h4⟩ := exP_home hmB
  obtain ⟨m1, m2⟩ := exP_lim hmB
  unfold kindV
  obtain ⟨q1, q2, q3, q4⟩ := exP_bk hmB 10
  rw [show (0 : Nat) + 1 = 1 from rfl, a0, b1, c1_clr, d1, q3, q1, show (10 : Int) + 10 = 20 from rfl, c2_clr, lie_20_hmB, if_neg (by decide), if_neg (by decide), if_pos rfl]
theorem exP_len (h : List Pt) : (exP h).ways.length = 3 := rfl
theorem exP_stops (h : List Pt) : stopsB (exP h) [] = true ∧ stopsB (exP h) [1] = true ∧ stopsB (exP h) [2] = false := by
  refine ⟨?_, ?_, ?_⟩
  · unfold stopsB; exact decide_eq_true fun k hk => absurd hk (by simp)
  · show stopsB (exP hmB) [1] = true; decide
  · show stopsB (exP hmB) [2] = false; decide
theorem exP_ok {h : List Pt} (hh : goValid h = true) : radOkB (exP h) [] = true ∧ radOkB (exP h) [1] = true ∧ radOkB (exP h) [2] = false := by
  obtain ⟨a, b, c⟩ := exP_stops h
  simp [radOkB, exP_valid hh, a, b, c]
theorem exA_0 : kpL (exP hmA) [] = 1 ∧ kpK (exP hmA) [] = 1 ∧ kpE (exP hmA) [] = 0 := by
  have e : leadN (exP hmA) [] = 1 := lead_iff (by rw [exP_len]; decide) (fun j hj => by obtain rfl : j = 0 := by omega
                                                                                        exact k0_kind) (fun _ => by rw [k1_kind]; decide)
  simp only [kpL, kpK, kpE, (exP_ok hmA_valid).1, if_true, leadV, leadK, e]
  exact ⟨rfl, by rw [if_pos (by rw [exP_len]; decide)]; exact k1_kind, trivial⟩
theorem exA_1 : kpL (exP hmA) [1] = 2 ∧ kpK (exP hmA) [1] = 0 ∧ kpE (exP hmA) [1] = 0 := by
  have e : leadN (exP hmA) [1] = 2 := lead_iff (by rw [exP_len]; decide) (fun j hj => by
    match j, hj with
    | 0, _ => exact k2_kind
    | 1, _ => exact k3_kind
    | j + 2, hj => exact absurd hj (by omega)) (fun h => absurd h (by rw [exP_len]; decide))
  simp only [kpL, kpK, kpE, (exP_ok hmA_valid).2.1, if_true, leadV, leadK, e]
  exact ⟨rfl, by rw [if_neg (by rw [exP_len]; decide)], trivial⟩
theorem exA_2 (h : List Pt) (hh : goValid h = true) : kpL (exP h) [2] = 0 ∧ kpK (exP h) [2] = 0 ∧ kpE (exP h) [2] = 1 := by
  simp [kpL, kpK, kpE, (exP_ok hh).2.2]
theorem exB_0 : kpL (exP hmB) [] = 0 ∧ kpK (exP hmB) [] = 2 ∧ kpE (exP hmB) [] = 0 := by
  have e : leadN (exP hmB) [] = 0 := lead_iff (by rw [exP_len]; decide) (fun j hj => by omega) (fun _ => by rw [k4_kind]; decide)
  simp only [kpL, kpK, kpE, (exP_ok hmB_valid).1, if_true, leadV, leadK, e]
  exact ⟨rfl, by rw [if_pos (by rw [exP_len]; decide)]; exact k4_kind, trivial⟩
theorem exB_1 : kpL (exP hmB) [1] = 0 := by
  have e : leadN (exP hmB) [1] = 0 := lead_iff (by rw [exP_len]; decide) (fun j hj => by omega) (fun _ => by rw [k5_kind]; decide)
  simp only [kpL, (exP_ok hmB_valid).2.1, if_true, leadV, e]
  rfl
theorem exP_fix (h : List Pt) : fixL (exP h) = [1] := rfl
theorem exA_best : bestP (exP hmA) = (2, [1]) := by
  unfold bestP farL
  rw [exP_fix, show allTo [1] (([1] : List Int).length + 1) = [[], [1]] from rfl]
  simp [farS, exA_0.1, exA_1.1]
theorem exB_best : bestP (exP hmB) = (0, []) := by
  unfold bestP farL
  rw [exP_fix, show allTo [1] (([1] : List Int).length + 1) = [[], [1]] from rfl]
  simp [farS, exB_0.1, exB_1]
theorem exA_all : bsB (exP hmA) = true ∧ bsL (exP hmA) = [1] ∧ plE (exP hmA) = 0 ∧ rfB (exP hmA) = false ∧ rfL (exP hmA) = [] ∧ rfG (exP hmA) = 0 := by
  have hv := exP_valid hmA_valid
  simp [bsB, bsL, rfB, rfL, rfG, plE, hv, exA_best, exP_len]
theorem exB_all : bsB (exP hmB) = false ∧ bsL (exP hmB) = [] ∧ plE (exP hmB) = 0 ∧ rfB (exP hmB) = true ∧ rfL (exP hmB) = [] ∧ rfG (exP hmB) = 0 := by
  have hv := exP_valid hmB_valid
  simp [bsB, bsL, rfB, rfL, rfG, plE, hv, exB_best, exP_len]
end Go.Proofs.YtfbdidfaeplllaaGreat

namespace Go.Proofs.YtfbdidfaeplllaaGreat
open Go.RowKit
attribute [local irreducible] wpQuiet

/-- a whole struct of 11 cells laid into a block -/
theorem set11 {X Z : World} {B : Nat} {cs : Array Value} {T : TypeId} {v0 v1 v2 v3 v4 v5 v6 v7 v8 v9 v10 : Value} (H : Has X B cs T) (hs : cs.size = 11) (hz : (((((((((((X.setCell ⟨B, 0, none⟩ v0).setCell ⟨B, 1, none⟩ v1).setCell ⟨B, 2, none⟩ v2).setCell ⟨B, 3, none⟩ v3).setCell ⟨B, 4, none⟩ v4).setCell ⟨B, 5, none⟩ v5).setCell ⟨B, 6, none⟩ v6).setCell ⟨B, 7, none⟩ v7).setCell ⟨B, 8, none⟩ v8).setCell ⟨B, 9, none⟩ v9).setCell ⟨B, 10, none⟩ v10) = Z) :
    Has Z B #[v0, v1, v2, v3, v4, v5, v6, v7, v8, v9, v10] T ∧ (∀ n, n ≤ B → Below n X Z) ∧ Z.heap.size = X.heap.size ∧ ∀ b, b ≠ B → Z.heap[b]? = X.heap[b]? := by
  subst hz
  obtain ⟨l, rfl⟩ : ∃ l : List Value, cs = l.toArray := ⟨cs.toList, by simp⟩
  obtain ⟨u0, u1, u2, u3, u4, u5, u6, u7, u8, u9, u10, rfl⟩ : ∃ u0 u1 u2 u3 u4 u5 u6 u7 u8 u9 u10, l = [u0, u1, u2, u3, u4, u5, u6, u7, u8, u9, u10] := by
    match l, hs with
    | [u0, u1, u2, u3, u4, u5, u6, u7, u8, u9, u10], _ => exact ⟨_, _, _, _, _, _, _, _, _, _, _, rfl⟩
  refine ⟨?_, fun n hn => ?_, by simp, fun b hb => ?_⟩
  · have := (((((((((((H.set 0 v0).set 1 v1).set 2 v2).set 3 v3).set 4 v4).set 5 v5).set 6 v6).set 7 v7).set 8 v8).set 9 v9).set 10 v10)
    simpa only [List.setIfInBounds_toArray, List.set_cons_zero, List.set_cons_succ] using this
  · exact ((((((((((((Below.refl n X).setCell (p := ⟨B, 0, none⟩) hn v0).setCell (p := ⟨B, 1, none⟩) hn v1).setCell (p := ⟨B, 2, none⟩) hn v2).setCell (p := ⟨B, 3, none⟩) hn v3).setCell (p := ⟨B, 4, none⟩) hn v4).setCell (p := ⟨B, 5, none⟩) hn v5).setCell (p := ⟨B, 6, none⟩) hn v6).setCell (p := ⟨B, 7, none⟩) hn v7).setCell (p := ⟨B, 8, none⟩) hn v8).setCell (p := ⟨B, 9, none⟩) hn v9).setCell (p := ⟨B, 10, none⟩) hn v10)
  · iterate 11 (rw [Below.heap_setCell _ _ _ _ (by exact hb)])
theorem at35_any (x y : Int) (w : World) :
    Calls Tryz.prog 58 #[.int .i64 x, .int .i64 y] w fun e w' => e = .returned (.agg #[.int .i64 x, .int .i64 y]) ∧ Below w.heap.size w w' := by
  go_enter Tryz.func58, Tryz.ntmps58
  go_wp2
  exact bodyPost_ret (v := .agg #[.int .i64 x, .int .i64 y]) (by simp [results, Tryz.f58, go_sem]) rfl ⟨rfl, by repeat (first | exact Below.refl _ _ | assumption | apply Below.drew | refine Below.setCell ?_ (by first | omega | (simp; done) | (simp; omega)) _ | refine Below.alloc ?_ (by first | omega | (simp; done) | (simp; omega)) _ | refine Below.call (by assumption) ?_ (by first | omega | (simp; done) | (simp; omega)))⟩
theorem few35_any (m : Msn) (vw vh vr : Value) (w : World) (hm : MsnAt w.heap.size w m vw vh vr) :
    Calls Tryz.prog 24 #[.agg (msnCells m vw vh vr)] w fun e w' => e = .returned (.bool (fewB m)) ∧ Below w.heap.size w w' := by
  have hf := fun w1 (B : Below w.heap.size w w1) => few_any m vw vh vr w1 ((hm.below B).mono B.size)
  obtain ⟨⟨-, a1, c1, rfl, -⟩, ⟨-, a2, c2, rfl, -⟩, ⟨-, a3, c3, rfl, -⟩⟩ := hm
  unfold msnCells at *
  replace hf := Lib.hid hf
  have BW := Lib.hid (Below.refl w.heap.size w)
  go_enter Tryz.func24, Tryz.ntmps24
  go_wp2_with fail
  generalize hXX0 : World.alloc w _ = X0
  obtain ⟨q0, hA, hzX0⟩ := box1 hXX0
  clear hXX0
  have BW := Lib.hid hA
  clear hA
  have MB := Lib.hid q0
  clear q0
  refine (hf.out _ BW.out).mono ?_
  rintro e w1 ⟨rfl, b1⟩
  replace BW := Lib.hid (BW.out.trans (b1.mono BW.out.size))
  have B_X0 := Lib.hid b1
  clear b1
  go_wp2
  go_ret
  exact ⟨rfl, BW.out⟩
theorem exP_at {W : World} {a b c d : Nat} (h1 : Has W a #[.int .i64 0, .int .i64 0, .int .i64 0, .int .i64 0, .int .i64 0, .int .i64 100, .int .i64 0, .int .i64 2, .int .i64 0, .int .i64 0, .int .i64 200, .int .i64 0, .int .i64 0, .int .i64 0, .int .i64 0] 40) (h2 : Has W b #[.int .i64 (-100), .int .i64 (-100), .int .i64 100, .int .i64 (-100), .int .i64 100, .int .i64 100, .int .i64 (-100), .int .i64 100] 31) (h3 : Has W c #[.int .i64 185, .int .i64 90, .int .i64 190, .int .i64 15, .int .i64 195, .int .i64 90] 31) (h4 : Has W d #[.slice (some ⟨c, 0, none⟩) 3 3] 23) :
    MsnAt W.heap.size W (exP hmA) (.slice (some ⟨a, 0, none⟩) 3 3) (.slice (some ⟨b, 0, none⟩) 4 4) (.slice (some ⟨d, 0, none⟩) 1 1) := by
  refine ⟨⟨by simp [exP], some ⟨a, 0, none⟩, 0, rfl, .inr ⟨a, 0, rfl, h1.lt, fun j hj => ?_⟩⟩, PtsAt.has (l := hmA) (cap := 0) h2 (by simp [hmA]) rfl, RocksAt.has (ls := [roX]) (cap := 0) h4 (by simp) fun j hj => ?_⟩
  · rcases (show j = 0 ∨ j = 1 ∨ j = 2 by simp [exP] at hj; omega) with rfl | rfl | rfl
    · exact ⟨h1.cell (i := 0) rfl, h1.cell (i := 1) rfl, h1.cell (i := 2) rfl, h1.cell (i := 3) rfl, h1.cell (i := 4) rfl⟩
    · exact ⟨h1.cell (i := 5) rfl, h1.cell (i := 6) rfl, h1.cell (i := 7) rfl, h1.cell (i := 8) rfl, h1.cell (i := 9) rfl⟩
    · exact ⟨h1.cell (i := 10) rfl, h1.cell (i := 11) rfl, h1.cell (i := 12) rfl, h1.cell (i := 13) rfl, h1.cell (i := 14) rfl⟩
  · obtain rfl : j = 0 := by simp at hj; omega
    exact ⟨_, rfl, PtsAt.has (l := roX) (cap := 0) h3 (by simp [roX]) rfl⟩
set_option linter.unusedSimpArgs false in
set_option linter.unusedVariables false in
set_option maxRecDepth 8000 in
set_option maxHeartbeats 3200000 in
theorem example35_any (w : World) : Calls Tryz.prog 57 #[] w fun e w' => ∃ a b d, e = .returned (.agg (msnCells (exP hmA) (.slice (some ⟨a, 0, none⟩) 3 3) (.slice (some ⟨b, 0, none⟩) 4 4) (.slice (some ⟨d, 0, none⟩) 1 1))) ∧ MsnAt w'.heap.size w' (exP hmA) (.slice (some ⟨a, 0, none⟩) 3 3) (.slice (some ⟨b, 0, none⟩) 4 4) (.slice (some ⟨d, 0, none⟩) 1 1) ∧ Below w.heap.size w w' := by
  have f1 := Lib.hid (fun x y w1 => at35_any x y w1)
  have BW := Lib.hid (Below.refl w.heap.size w)
  go_enter Tryz.func57, Tryz.ntmps57
  go_wp2_with fail
  generalize hXX0 : World.alloc w _ = X0
  obtain ⟨q0, hA, hzX0⟩ := box1 hXX0
  clear hXX0
  have BW := Lib.hid hA
  clear hA
  have RV := Lib.hid q0
  clear q0
  refine (f1.out (-100) (-100) X0).mono ?_
  rintro e w1 ⟨rfl, b1⟩
  replace BW := Lib.hid (BW.out.trans (b1.mono BW.out.size))
  have B_X0 := Lib.hid b1
  clear b1
  go_wp2_with fail
  refine (f1.out 100 (-100) w1).mono ?_
  rintro e w2 ⟨rfl, b2⟩
  replace BW := Lib.hid (BW.out.trans (b2.mono BW.out.size))
  replace B_X0 := Lib.hid (B_X0.out.trans (b2.mono B_X0.out.size))
  clear b2
  go_wp2_with fail
  refine (f1.out 100 100 w2).mono ?_
  rintro e w3 ⟨rfl, b3⟩
  replace BW := Lib.hid (BW.out.trans (b3.mono BW.out.size))
  replace B_X0 := Lib.hid (B_X0.out.trans (b3.mono B_X0.out.size))
  clear b3
  go_wp2_with fail
  refine (f1.out (-100) 100 w3).mono ?_
  rintro e w4 ⟨rfl, b4⟩
  replace BW := Lib.hid (BW.out.trans (b4.mono BW.out.size))
  replace B_X0 := Lib.hid (B_X0.out.trans (b4.mono B_X0.out.size))
  clear b4
  have nh := Lib.hid (show w.heap.size < w4.heap.size by have := B_X0.out.size; omega)
  go_upto_region 2 with fail
  generalize hXX1 : World.alloc w4 _ = X1
  obtain ⟨q0, hA, hzX1⟩ := box1 hXX1
  clear hXX1
  replace BW := Lib.hid (BW.out.trans (hA.mono BW.out.size))
  replace B_X0 := Lib.hid (B_X0.out.trans (hA.mono B_X0.out.size))
  clear hA
  have HB := Lib.hid q0
  clear q0
  go_wp2_with fail
  refine (f1.out 185 90 X1).mono ?_
  rintro e w5 ⟨rfl, b5⟩
  replace BW := Lib.hid (BW.out.trans (b5.mono BW.out.size))
  replace B_X0 := Lib.hid (B_X0.out.trans (b5.mono B_X0.out.size))
  have B_X1 := Lib.hid b5
  clear b5
  go_wp2_with fail
  refine (f1.out 190 15 w5).mono ?_
  rintro e w6 ⟨rfl, b6⟩
  replace BW := Lib.hid (BW.out.trans (b6.mono BW.out.size))
  replace B_X0 := Lib.hid (B_X0.out.trans (b6.mono B_X0.out.size))
  replace B_X1 := Lib.hid (B_X1.out.trans (b6.mono B_X1.out.size))
  clear b6
  go_wp2_with fail
  refine (f1.out 195 90 w6).mono ?_
  rintro e w7 ⟨rfl, b7⟩
  replace BW := Lib.hid (BW.out.trans (b7.mono BW.out.size))
  replace B_X0 := Lib.hid (B_X0.out.trans (b7.mono B_X0.out.size))
  replace B_X1 := Lib.hid (B_X1.out.trans (b7.mono B_X1.out.size))
  clear b7
  have nk := Lib.hid (show w.heap.size < w7.heap.size by have := B_X0.out.size; omega)
  go_upto_region 3 with fail
  generalize hXX2 : World.alloc w7 _ = X2
  obtain ⟨q0, hA, hzX2⟩ := box1 hXX2
  clear hXX2
  replace BW := Lib.hid (BW.out.trans (hA.mono BW.out.size))
  replace B_X0 := Lib.hid (B_X0.out.trans (hA.mono B_X0.out.size))
  replace B_X1 := Lib.hid (B_X1.out.trans (hA.mono B_X1.out.size))
  clear hA
  have KB := Lib.hid q0
  clear q0
  go_wp2_with fail
  refine (f1.out 100 0 X2).mono ?_
  rintro e w8 ⟨rfl, b8⟩
  replace BW := Lib.hid (BW.out.trans (b8.mono BW.out.size))
  replace B_X0 := Lib.hid (B_X0.out.trans (b8.mono B_X0.out.size))
  replace B_X1 := Lib.hid (B_X1.out.trans (b8.mono B_X1.out.size))
  have B_X2 := Lib.hid b8
  clear b8
  go_wp2_with fail
  refine (f1.out 200 0 w8).mono ?_
  rintro e w9 ⟨rfl, b9⟩
  replace BW := Lib.hid (BW.out.trans (b9.mono BW.out.size))
  replace B_X0 := Lib.hid (B_X0.out.trans (b9.mono B_X0.out.size))
  replace B_X1 := Lib.hid (B_X1.out.trans (b9.mono B_X1.out.size))
  replace B_X2 := Lib.hid (B_X2.out.trans (b9.mono B_X2.out.size))
  clear b9
  clear hzX1 hzX2
  have hR := (RV.out.below B_X0.out RV.out.lt)
  have ltR := hR.lt
  have HB9 := Lib.hid (HB.out.below B_X1.out HB.out.lt)
  have KB9 := Lib.hid (KB.out.below B_X2.out KB.out.lt)
  have r0 := hR.cell (i := 0) rfl
  have z0 := cells_free hR 0
  have r1 := hR.cell (i := 1) rfl
  have z1 := cells_free hR 1
  have r2 := hR.cell (i := 2) rfl
  have z2 := cells_free hR 2
  have r3 := hR.cell (i := 3) rfl
  have z3 := cells_free hR 3
  have r4 := hR.cell (i := 4) rfl
  have z4 := cells_free hR 4
  have r5 := hR.cell (i := 5) rfl
  have z5 := cells_free hR 5
  have r6 := hR.cell (i := 6) rfl
  have z6 := cells_free hR 6
  have r7 := hR.cell (i := 7) rfl
  have z7 := cells_free hR 7
  have r8 := hR.cell (i := 8) rfl
  have z8 := cells_free hR 8
  have r9 := hR.cell (i := 9) rfl
  have z9 := cells_free hR 9
  have r10 := hR.cell (i := 10) rfl
  have z10 := cells_free hR 10
  have HR := Lib.hid hR
  clear hR
  go_wp2
  clear r0 z0 r1 z1 r2 z2 r3 z3 r4 z4 r5 z5 r6 z6 r7 z7 r8 z8 r9 z9 r10 z10
  generalize hZ : World.setCell (World.setCell (World.setCell (World.setCell (World.setCell (World.setCell (World.setCell (World.setCell (World.setCell (World.setCell (World.setCell w9 _ _) _ _) _ _) _ _) _ _) _ _) _ _) _ _) _ _) _ _) _ _ = Z
  obtain ⟨HZ, hl2, hs2, he2⟩ := set11 HR.out rfl hZ
  clear hZ
  generalize hX9 : World.alloc (World.alloc Z _) _ = X
  obtain ⟨q0, q1, hA, -⟩ := box2 hX9
  clear hX9
  have ltZ : w.heap.size < Z.heap.size := HZ.lt
  have hR := HZ.below hA ltZ
  have hH := (Has.eq HB9.out he2 (by have := nh.out; omega)).below hA (by rw [hs2]; exact HB9.out.lt)
  have hK := (Has.eq KB9.out he2 (by have := nk.out; omega)).below hA (by rw [hs2]; exact KB9.out.lt)
  have BX := BW.out.trans ((hl2 w.heap.size (Nat.le_refl _)).trans (hA.mono (by omega)))
  rw [hs2] at q0 q1
  have hM := exP_at q0 hH hK q1
  have r0 := hR.cell (i := 0) rfl
  have r1 := hR.cell (i := 1) rfl
  have r2 := hR.cell (i := 2) rfl
  have r3 := hR.cell (i := 3) rfl
  have r4 := hR.cell (i := 4) rfl
  have r5 := hR.cell (i := 5) rfl
  have r6 := hR.cell (i := 6) rfl
  have r7 := hR.cell (i := 7) rfl
  have r8 := hR.cell (i := 8) rfl
  have r9 := hR.cell (i := 9) rfl
  have r10 := hR.cell (i := 10) rfl
  exact bodyPost_ret (v := .agg (msnCells (exP hmA) _ _ _)) (by simp [results, msnCells, exP, Tryz.f57, go_sem, r0, r1, r2, r3, r4, r5, r6, r7, r8, r9, r10]) rfl ⟨_, _, _, rfl, hM, BX⟩
end Go.Proofs.YtfbdidfaeplllaaGreat

namespace Go.Proofs.YtfbdidfaeplllaaGreat
open Go.RowKit
attribute [local irreducible] wpQuiet

theorem ints_one {W : World} {B : Nat} {x : Int} {T : TypeId} (h : Has W B #[.int .i64 x] T) : IntsAt W.heap.size W (.slice (some ⟨B, 0, none⟩) 1 1) [x] := by
  refine ⟨by simp, some ⟨B, 0, none⟩, 0, rfl, .inr ⟨B, 0, rfl, h.lt, fun j hj => ?_⟩⟩
  obtain rfl : j = 0 := by simp at hj; omega
  exact h.cell (i := 0) rfl
theorem grown_cell (W : World) (a : Addr) (v : Value) : W.grownBy (W.setCell a v) (some a.block) := ⟨rfl, rfl, rfl, by simp [World.setCell], fun k _ hk => Below.heap_setCell _ _ _ k (fun e => hk (by rw [e]))⟩
theorem MsnAt.homeB {W : World} {vw vh vr vb : Value} (h : MsnAt W.heap.size W (exP hmA) vw vh vr) (hp : PtsAt W.heap.size W vb hmB) : MsnAt W.heap.size W (exP hmB) vw vb vr := ⟨h.1, hp, h.2.2⟩
set_option linter.unusedSimpArgs false in
set_option linter.unusedVariables false in
set_option maxRecDepth 8000 in
set_option maxHeartbeats 6400000 in
theorem head35_any (w : World) : Calls Tryz.prog 23 #[] w fun e w' => e = .returned (.bool true) ∧ Below w.heap.size w w' := by
  have fx := Lib.hid (fun w1 => example35_any w1)
  have fa := Lib.hid (fun w1 => at35_any 0 0 w1)
  have BW := Lib.hid (Below.refl w.heap.size w)
  go_enter Tryz.func23, Tryz.ntmps23
  go_wp2_with fail
  refine (fx.out w).mono ?_
  rintro e w1 ⟨a, b, d, rfl, hM, b1⟩
  have BW := Lib.hid b1
  clear b1
  have MM := Lib.hid hM
  clear hM
  simp only [msnCells, exP]
  have ltw1 := Lib.hid BW.out.size
  go_wp2_with fail
  generalize hXX1 : World.alloc w1 _ = X1
  obtain ⟨q0, hA, hzX1⟩ := box1 hXX1
  clear hXX1
  replace BW := Lib.hid (BW.out.trans (hA.mono BW.out.size))
  have B_w1 := Lib.hid hA
  clear hA
  have MB := Lib.hid q0
  clear q0
  clear hzX1
  obtain ⟨c0, c1, c2, c3, c4, c5, c6, c7, c8, c9, c10⟩ := msn_cells (m := exP hmA) MB.out
  have ltMB := MB.out.lt
  have g1 := tkeeps_any (exP hmA) _ _ _ (.slice none 0 0) [] X1 ((MM.out.below B_w1.out).mono B_w1.out.size) (IntsAt.nil _ _)
  rw [exA_0.1, exA_0.2.1, exA_0.2.2] at g1
  refine (g1).mono ?_
  rintro e w2 ⟨rfl, b2⟩
  replace BW := Lib.hid (BW.out.trans (b2.mono BW.out.size))
  replace B_w1 := Lib.hid (B_w1.out.trans (b2.mono B_w1.out.size))
  have B_X1 := Lib.hid b2
  clear b2
  clear c0 c1 c2 c3 c4 c5 c6 c7 c8 c9 c10 ltMB
  obtain ⟨c0, c1, c2, c3, c4, c5, c6, c7, c8, c9, c10⟩ := msn_cells (m := exP hmA) (MB.out.below B_X1.out MB.out.lt)
  have ltMB := (MB.out.below B_X1.out MB.out.lt).lt
  clear g1
  go_wp2_with fail
  generalize hXX2 : World.alloc w2 _ = X2
  obtain ⟨q0, hA, hzX2⟩ := box1 hXX2
  clear hXX2
  replace BW := Lib.hid (BW.out.trans (hA.mono BW.out.size))
  replace B_w1 := Lib.hid (B_w1.out.trans (hA.mono B_w1.out.size))
  replace B_X1 := Lib.hid (B_X1.out.trans (hA.mono B_X1.out.size))
  clear hA
  have S1 := Lib.hid q0
  clear q0
  clear c0 c1 c2 c3 c4 c5 c6 c7 c8 c9 c10 ltMB
  obtain ⟨c0, c1, c2, c3, c4, c5, c6, c7, c8, c9, c10⟩ := msn_cells (m := exP hmA) (MB.out.below B_X1.out MB.out.lt)
  have ltMB := (MB.out.below B_X1.out MB.out.lt).lt
  clear hzX2
  have g2 := tkeeps_any (exP hmA) _ _ _ _ [1] X2 ((MM.out.below B_w1.out).mono B_w1.out.size) (ints_one S1.out)
  rw [exA_1.1, exA_1.2.1, exA_1.2.2] at g2
  refine (g2).mono ?_
  rintro e w3 ⟨rfl, b3⟩
  replace BW := Lib.hid (BW.out.trans (b3.mono BW.out.size))
  replace B_w1 := Lib.hid (B_w1.out.trans (b3.mono B_w1.out.size))
  replace B_X1 := Lib.hid (B_X1.out.trans (b3.mono B_X1.out.size))
  have B_X2 := Lib.hid b3
  clear b3
  clear c0 c1 c2 c3 c4 c5 c6 c7 c8 c9 c10 ltMB
  obtain ⟨c0, c1, c2, c3, c4, c5, c6, c7, c8, c9, c10⟩ := msn_cells (m := exP hmA) (MB.out.below B_X1.out MB.out.lt)
  have ltMB := (MB.out.below B_X1.out MB.out.lt).lt
  clear g2
  clear S1
  clear B_X2
  go_wp2_with fail
  have g3 := tbest_any (exP hmA) _ _ _ w3 ((MM.out.below B_w1.out).mono B_w1.out.size) (by rw [exP_len]; decide)
  simp only [exA_all.1, exA_all.2.1, exA_all.2.2.1, exA_all.2.2.2.1, exA_all.2.2.2.2.1, exA_all.2.2.2.2.2] at g3
  refine (g3).mono ?_
  rintro e w4 ⟨v1, rfl, p1, b4, n1'⟩
  replace BW := Lib.hid (BW.out.trans (b4.mono BW.out.size))
  replace B_w1 := Lib.hid (B_w1.out.trans (b4.mono B_w1.out.size))
  replace B_X1 := Lib.hid (B_X1.out.trans (b4.mono B_X1.out.size))
  clear b4
  have PB := Lib.hid p1
  clear p1
  obtain ⟨-, ga3, gk3, hv3, -⟩ := PB.out
  subst hv3
  have NB := Lib.hid (fun r e => show w1.heap.size < r by have := n1' r e; omega)
  clear n1'
  clear c0 c1 c2 c3 c4 c5 c6 c7 c8 c9 c10 ltMB
  obtain ⟨c0, c1, c2, c3, c4, c5, c6, c7, c8, c9, c10⟩ := msn_cells (m := exP hmA) (MB.out.below B_X1.out MB.out.lt)
  have ltMB := (MB.out.below B_X1.out MB.out.lt).lt
  clear g3
  go_wp2_with fail
  have g4 := trefused_any (exP hmA) _ _ _ w4 ((MM.out.below B_w1.out).mono B_w1.out.size) (by rw [exP_len]; decide)
  simp only [exA_all.1, exA_all.2.1, exA_all.2.2.1, exA_all.2.2.2.1, exA_all.2.2.2.2.1, exA_all.2.2.2.2.2] at g4
  refine (g4).mono ?_
  rintro e w5 ⟨v2, rfl, p2, b5, -⟩
  replace BW := Lib.hid (BW.out.trans (b5.mono BW.out.size))
  replace B_w1 := Lib.hid (B_w1.out.trans (b5.mono B_w1.out.size))
  replace B_X1 := Lib.hid (B_X1.out.trans (b5.mono B_X1.out.size))
  have B_w4 := Lib.hid b5
  clear b5
  have PR := Lib.hid p2
  clear p2
  obtain ⟨-, ga4, gk4, hv4, -⟩ := PR.out
  subst hv4
  clear c0 c1 c2 c3 c4 c5 c6 c7 c8 c9 c10 ltMB
  obtain ⟨c0, c1, c2, c3, c4, c5, c6, c7, c8, c9, c10⟩ := msn_cells (m := exP hmA) (MB.out.below B_X1.out MB.out.lt)
  have ltMB := (MB.out.below B_X1.out MB.out.lt).lt
  clear g4
  go_wp2_with fail
  refine (fa.out w5).mono ?_
  rintro e w6 ⟨rfl, b6⟩
  replace BW := Lib.hid (BW.out.trans (b6.mono BW.out.size))
  replace B_w1 := Lib.hid (B_w1.out.trans (b6.mono B_w1.out.size))
  replace B_X1 := Lib.hid (B_X1.out.trans (b6.mono B_X1.out.size))
  replace B_w4 := Lib.hid (B_w4.out.trans (b6.mono B_w4.out.size))
  have B_w5 := Lib.hid b6
  clear b6
  clear c0 c1 c2 c3 c4 c5 c6 c7 c8 c9 c10 ltMB
  obtain ⟨c0, c1, c2, c3, c4, c5, c6, c7, c8, c9, c10⟩ := msn_cells (m := exP hmA) (MB.out.below B_X1.out MB.out.lt)
  have ltMB := (MB.out.below B_X1.out MB.out.lt).lt
  have hMB := (MB.out.below B_X1.out MB.out.lt)
  have l0 := hMB.cell (i := 1) rfl
  have l1 := cells_free hMB 1
  have HMB := Lib.hid hMB
  have ltw := hMB.lt
  clear hMB
  go_upto_region 7 with fail
  clear l0 l1
  clear c0 c1 c2 c3 c4 c5 c6 c7 c8 c9 c10 ltMB
  generalize hZ : World.setCell w6 _ _ = Z
  have HZ := HMB.out.set 1 (.slice (some ⟨w6.heap.size, 0, none⟩) 1 1)
  have BZ := B_w1.out.setCell (p := ⟨w1.heap.size, 1, none⟩) (Nat.le_refl _) (.slice (some ⟨w6.heap.size, 0, none⟩) 1 1)
  have BZ0 := BW.out.setCell (p := ⟨w1.heap.size, 1, none⟩) ltw1.out (.slice (some ⟨w6.heap.size, 0, none⟩) 1 1)
  have PB2 := IntsAt.offG ((PB.out.below B_w4.out).mono B_w4.out.size) (grown_cell w6 ⟨w1.heap.size, 1, none⟩ (.slice (some ⟨w6.heap.size, 0, none⟩) 1 1)) (fun r e => .inr fun e2 => by cases e; exact absurd (NB.out _ e2) (Nat.lt_irrefl _))
  have SZ : Z.heap.size = w6.heap.size := by rw [← hZ]; simp
  rw [hZ] at HZ BZ BZ0 PB2
  clear hZ
  simp only [List.setIfInBounds_toArray, List.set_cons_zero, List.set_cons_succ] at HZ
  generalize hY : World.alloc Z _ = Y
  obtain ⟨q0, hA, hzY⟩ := box1 hY
  clear hY hzY
  rw [SZ] at q0
  have BZY := BZ.trans (hA.mono BZ.size)
  have M2 := Lib.hid (MsnAt.homeB ((MM.out.below BZY).mono BZY.size) (PtsAt.has (l := hmB) (cap := 0) q0 (by simp [hmB]) rfl))
  have B2 := Lib.hid (HZ.below hA HZ.lt)
  have P2 := Lib.hid ((PB2.below hA).mono hA.size)
  replace BW := Lib.hid (BZ0.trans (hA.mono BZ0.size))
  clear HZ BZ BZ0 PB2 SZ q0 hA BZY MM MB PB PR NB HMB B_w1 ltw
  obtain ⟨c0, c1, c2, c3, c4, c5, c6, c7, c8, c9, c10⟩ := msn_cells (m := exP hmB) B2.out
  have ltB2 := B2.out.lt
  go_wp2_with fail
  have g5 := tbest_any (exP hmB) _ _ _ Y M2.out (by rw [exP_len]; decide)
  simp only [exB_all.1, exB_all.2.1, exB_all.2.2.1, exB_all.2.2.2.1, exB_all.2.2.2.2.1, exB_all.2.2.2.2.2] at g5
  refine (g5).mono ?_
  rintro e w7 ⟨v3, rfl, p3, b7, -⟩
  replace BW := Lib.hid (BW.out.trans (b7.mono BW.out.size))
  have B_Y := Lib.hid b7
  clear b7
  have P3 := Lib.hid p3
  clear p3
  obtain ⟨-, ga5, gk5, hv5, -⟩ := P3.out
  subst hv5
  clear c0 c1 c2 c3 c4 c5 c6 c7 c8 c9 c10 ltB2
  obtain ⟨c0, c1, c2, c3, c4, c5, c6, c7, c8, c9, c10⟩ := msn_cells (m := exP hmB) (B2.out.below B_Y.out B2.out.lt)
  have ltB2 := (B2.out.below B_Y.out B2.out.lt).lt
  clear g5
  go_wp2_with fail
  have g6 := trefused_any (exP hmB) _ _ _ w7 ((M2.out.below B_Y.out).mono B_Y.out.size) (by rw [exP_len]; decide)
  simp only [exB_all.1, exB_all.2.1, exB_all.2.2.1, exB_all.2.2.2.1, exB_all.2.2.2.2.1, exB_all.2.2.2.2.2] at g6
  refine (g6).mono ?_
  rintro e w8 ⟨v4, rfl, p4, b8, -⟩
  replace BW := Lib.hid (BW.out.trans (b8.mono BW.out.size))
  replace B_Y := Lib.hid (B_Y.out.trans (b8.mono B_Y.out.size))
  have B_w7 := Lib.hid b8
  clear b8
  have P4 := Lib.hid p4
  clear p4
  obtain ⟨-, ga6, gk6, hv6, -⟩ := P4.out
  subst hv6
  clear c0 c1 c2 c3 c4 c5 c6 c7 c8 c9 c10 ltB2
  obtain ⟨c0, c1, c2, c3, c4, c5, c6, c7, c8, c9, c10⟩ := msn_cells (m := exP hmB) (B2.out.below B_Y.out B2.out.lt)
  have ltB2 := (B2.out.below B_Y.out B2.out.lt).lt
  clear g6
  go_wp2_with fail
  have g7 := tkeeps_any (exP hmB) _ _ _ (.slice none 0 0) [] w8 ((M2.out.below B_Y.out).mono B_Y.out.size) (IntsAt.nil _ _)
  rw [exB_0.1, exB_0.2.1, exB_0.2.2] at g7
  refine (g7).mono ?_
  rintro e w9 ⟨rfl, b9⟩
  replace BW := Lib.hid (BW.out.trans (b9.mono BW.out.size))
  replace B_Y := Lib.hid (B_Y.out.trans (b9.mono B_Y.out.size))
  replace B_w7 := Lib.hid (B_w7.out.trans (b9.mono B_w7.out.size))
  have B_w8 := Lib.hid b9
  clear b9
  clear c0 c1 c2 c3 c4 c5 c6 c7 c8 c9 c10 ltB2
  obtain ⟨c0, c1, c2, c3, c4, c5, c6, c7, c8, c9, c10⟩ := msn_cells (m := exP hmB) (B2.out.below B_Y.out B2.out.lt)
  have ltB2 := (B2.out.below B_Y.out B2.out.lt).lt
  clear g7
  go_wp2_with fail
  generalize hXY2 : World.alloc w9 _ = Y2
  obtain ⟨q0, hA, hzY2⟩ := box1 hXY2
  clear hXY2
  replace BW := Lib.hid (BW.out.trans (hA.mono BW.out.size))
  replace B_Y := Lib.hid (B_Y.out.trans (hA.mono B_Y.out.size))
  replace B_w7 := Lib.hid (B_w7.out.trans (hA.mono B_w7.out.size))
  replace B_w8 := Lib.hid (B_w8.out.trans (hA.mono B_w8.out.size))
  clear hA
  have S2 := Lib.hid q0
  clear q0
  clear c0 c1 c2 c3 c4 c5 c6 c7 c8 c9 c10 ltB2
  obtain ⟨c0, c1, c2, c3, c4, c5, c6, c7, c8, c9, c10⟩ := msn_cells (m := exP hmB) (B2.out.below B_Y.out B2.out.lt)
  have ltB2 := (B2.out.below B_Y.out B2.out.lt).lt
  clear hzY2
  have g9 := tkeeps_any (exP hmB) _ _ _ _ [2] Y2 ((M2.out.below B_Y.out).mono B_Y.out.size) (ints_one S2.out)
  rw [(exA_2 hmB hmB_valid).1, (exA_2 hmB hmB_valid).2.1, (exA_2 hmB hmB_valid).2.2] at g9
  refine (g9).mono ?_
  rintro e w10 ⟨rfl, b10⟩
  replace BW := Lib.hid (BW.out.trans (b10.mono BW.out.size))
  replace B_Y := Lib.hid (B_Y.out.trans (b10.mono B_Y.out.size))
  replace B_w7 := Lib.hid (B_w7.out.trans (b10.mono B_w7.out.size))
  replace B_w8 := Lib.hid (B_w8.out.trans (b10.mono B_w8.out.size))
  have B_Y2 := Lib.hid b10
  clear b10
  clear c0 c1 c2 c3 c4 c5 c6 c7 c8 c9 c10 ltB2
  obtain ⟨c0, c1, c2, c3, c4, c5, c6, c7, c8, c9, c10⟩ := msn_cells (m := exP hmB) (B2.out.below B_Y.out B2.out.lt)
  have ltB2 := (B2.out.below B_Y.out B2.out.lt).lt
  clear g9
  clear S2
  clear B_Y2
  clear c0 c1 c2 c3 c4 c5 c6 c7 c8 c9 c10 ltB2
  go_wp2_with fail
  generalize hXY3 : World.alloc w10 _ = Y3
  obtain ⟨q0, hA, hzY3⟩ := box1 hXY3
  clear hXY3
  replace BW := Lib.hid (BW.out.trans (hA.mono BW.out.size))
  replace B_Y := Lib.hid (B_Y.out.trans (hA.mono B_Y.out.size))
  replace B_w7 := Lib.hid (B_w7.out.trans (hA.mono B_w7.out.size))
  replace B_w8 := Lib.hid (B_w8.out.trans (hA.mono B_w8.out.size))
  clear hA
  have S3 := Lib.hid q0
  clear q0
  clear hzY3
  have g8 := same32_any _ _ [1] [1] Y3 ((P2.out.below B_Y.out).mono B_Y.out.size) (ints_one S3.out)
  rw [decide_eq_true rfl] at g8
  refine (g8).mono ?_
  rintro e w11 ⟨rfl, b11⟩
  replace BW := Lib.hid (BW.out.trans (b11.mono BW.out.size))
  replace B_Y := Lib.hid (B_Y.out.trans (b11.mono B_Y.out.size))
  replace B_w7 := Lib.hid (B_w7.out.trans (b11.mono B_w7.out.size))
  replace B_w8 := Lib.hid (B_w8.out.trans (b11.mono B_w8.out.size))
  have B_Y3 := Lib.hid b11
  clear b11
  clear g8
  go_wp2
  go_ret
  exact ⟨rfl, BW.out⟩
end Go.Proofs.YtfbdidfaeplllaaGreat

namespace Go.Proofs.YtfbdidfaeplllaaGreat

/-- a way without a wait -/
def noW (a : Wy) : Wy := { a with wait := 0 }
def frM (m : Msn) : Msn := { m with ways := m.ways.map noW }
theorem fr_len (m : Msn) : (frM m).ways.length = m.ways.length := by simp [frM]
theorem fr_wy {m : Msn} {j : Nat} (hj : j < m.ways.length) : wy (frM m).ways j = noW (wy m.ways j) := by simp [frM, wy, List.getD, hj]
theorem fr_wait (m : Msn) (j : Nat) : (wy (frM m).ways j).wait = 0 := by
  by_cases hj : j < m.ways.length
  · rw [fr_wy hj]; rfl
  · simp [wy, frM, List.getD, List.getElem?_eq_none (Nat.le_of_not_lt hj)]
theorem fr_d {m : Msn} {i j : Nat} (hi : i < m.ways.length) (hj : j < m.ways.length) : dLeg (frM m) i j = dLeg m i j := by unfold dLeg; rw [fr_wy hi, fr_wy hj]; rfl
theorem fr_g {m : Msn} {i j : Nat} (hi : i < m.ways.length) (hj : j < m.ways.length) : gLeg (frM m) i j = gLeg m i j := by unfold gLeg; rw [fr_d hi hj]; rfl
theorem fr_ways {m : Msn} (h : waysB m.ways = true) : waysB (frM m).ways = true := by
  refine decide_eq_true fun j hj => ?_
  rw [fr_len] at hj
  rw [fr_wy hj]
  obtain ⟨p1, p2, p3, p4, p5, p6, -, -, -, p10, p11⟩ := wayB_true (waysB_at h hj)
  exact decide_eq_true ⟨p1, p2, p3, p4, p5, p6, Int.le_refl _, by show (0 : Int) ≤ 100000; decide, .inr rfl, p10, p11⟩
theorem fr_valid {m : Msn} (hV : validB m = true) : validB (frM m) = true := by
  have V := (validB_iff m).1 hV
  have e : ∀ k, k < m.ways.length → grownTo (frM m) k = grownTo m k := by
    intro k
    induction k with
    | zero => intro _; rfl
    | succ k ih =>
      intro hk
      have hb := back_lt V.ways (k := k + 1) (by omega) (by omega)
      show grownTo (frM m) k + (gLeg (frM m) k (k + 1) + gLeg (frM m) (k + 1) (wy (frM m).ways (k + 1)).back.toNat) = grownTo m k + (gLeg m k (k + 1) + gLeg m (k + 1) (wy m.ways (k + 1)).back.toNat)
      rw [ih (by omega), fr_wy hk, fr_g (by omega) hk]
      show _ + (_ + gLeg (frM m) (k + 1) (wy m.ways (k + 1)).back.toNat) = _
      rw [fr_g hk (by omega)]
  have n2 := V.n2
  refine (validB_iff _).2 ⟨by rw [fr_len]; exact n2, by rw [fr_len]; exact V.n41, V.nr, fr_ways V.ways, V.home, V.rocks, V.start, V.leg, V.idle, V.drive, V.battery, V.deadline, ?_⟩
  unfold grownV
  rw [fr_len, e _ (by omega)]
  exact V.grown
section
variable {m : Msn} (V : VMsn m)
include V
theorem clr_less {a b : Nat} (ha : a < m.ways.length) (hb : b < m.ways.length) {u u' v v' : Int} (hu : 0 ≤ u' ∧ u' ≤ u ∧ u ≤ 100000) (hv : 0 ≤ v' ∧ v' ≤ v ∧ v ≤ 100000) (h : clrB m a u b v = true) : clrB m a u' b v' = true := by
  have e1 := cor_ok V ha hb (u := u) (w := v) (by omega) (by omega)
  have e2 := cor_ok V ha hb (u := u') (w := v') (by omega) (by omega)
  unfold clrB at h ⊢
  rw [Bool.not_eq_true'] at h ⊢
  unfold corL at h ⊢
  rw [if_pos e1] at h
  rw [if_pos e2]
  have g1 := goValid_of (cor_valid e1)
  have g2 := goValid_of (cor_valid e2)
  have o1 : okRocks (corH (atW m a) u.toNat (atW m b) v.toNat) m.rocks = true := by unfold okRocks; rw [g1, Bool.true_and]; exact V.rocks
  have o2 : okRocks (corH (atW m a) u'.toNat (atW m b) v'.toNat) m.rocks = true := by unfold okRocks; rw [g2, Bool.true_and]; exact V.rocks
  unfold firB at h ⊢
  rw [if_pos ⟨V.nr, o1⟩] at h
  rw [if_pos ⟨V.nr, o2⟩]
  refine (hit_none _).2 fun j hj => ?_
  have ht := (hit_none _).1 h j hj
  have gr : goValid (rk m.rocks j) = true := of_decide_eq_true V.rocks j hj
  rw [touchB_symm gr g1] at ht
  rw [touchB_symm gr g2]
  refine touch_within gr g2 g1 (fun k hk => ?_) ht
  exact inside_of_inH (cor_valid e1).1 (cor_wider e2 e1 hu.2.1 hv.2.1 (nth_mem hk))
theorem bk_less {l s : List Int} (hs : ∀ x, x ∈ s → x ∈ l) {a : Nat} (ha : a < m.ways.length) : ∀ j, j ≤ dep m a → bkC m a (rdB m s a) j = true → bkC m a (rdB m l a) j = true
  | 0, _, _ => rfl
  | j + 1, hj, h => by
    simp only [bkC, Bool.and_eq_true] at h ⊢
    refine ⟨bk_less hs ha j (by omega) h.1, ?_⟩
    have r := (rd_sub m hs a).1
    have b1 := bk_bd V l ha (j := j) (by omega)
    have b2 := bk_bd V s ha (j := j) (by omega)
    have b3 := bk_bd V l ha hj
    have b4 := bk_bd V s ha hj
    refine clr_less V (itB_lt V.ways ha (by omega)) (itB_lt V.ways ha hj) ⟨b1.1, ?_, b2.2⟩ ⟨b3.1, ?_, b4.2⟩ h.2
    · rw [bkR_home, bkR_home]; omega
    · rw [bkR_home, bkR_home]; omega
theorem lie_less {r r' : Int} (hr : 0 ≤ r' ∧ r' ≤ r ∧ r ≤ 100000) (h : lieB m r = true) : lieB m r' = true := by
  have n2 := V.n2
  have e1 := corE_zero (cor_ok V (a := 0) (b := 0) (by omega) (by omega) (u := r) (w := r) (by omega) (by omega))
  have e2 := corE_zero (cor_ok V (a := 0) (b := 0) (by omega) (by omega) (u := r') (w := r') (by omega) (by omega))
  have v1 := disk_valid (n := r.toNat) (by omega)
  have v2 := disk_valid (n := r'.toNat) (by omega)
  have g1 : goValid (mvL (atW m 0) (diskP r.toNat)) = true := by rw [goValid_mv _ v1]; exact e1.2.1
  have h1 := cornersTo_all _ (of_decide_eq_true h)
  have hin : ∀ k, k < (mvL (atW m 0) (diskP r.toNat)).length → inside m.home (nth (mvL (atW m 0) (diskP r.toNat)) k) = true := fun k hk => by
    have := h1 k hk
    simp only [hasB, Bool.and_eq_true] at this
    exact this.2
  have gm := goValid_true V.home
  refine decide_eq_true ?_
  have all : ∀ k, k ≤ (mvL (atW m 0) (diskP r'.toNat)).length → (cornersTo (mvL (atW m 0) (diskP r'.toNat)) m.home k).length = k := by
    intro k
    induction k with
    | zero => intro _; rfl
    | succ k ih =>
      intro hk
      have hb : hasB m.home (nth (mvL (atW m 0) (diskP r'.toNat)) k) = true := by
        have hkd : k < (diskP r'.toNat).length := by rw [mvL_len] at hk; omega
        have hp := (allPl_mem.1 e2.2.1) _ (nth_mem (l := mvL (atW m 0) (diskP r'.toNat)) (k := k) (by omega))
        have hi := inside_of_inH gm.1 (inH_within (goValid_true g1) hin gm (inH_mv (atW m 0) v1.1 (disk_more (show r'.toNat ≤ r.toNat by omega) (nth_mem hkd))))
        rw [nth_mvL _ hkd] at hp ⊢
        simp only [hasB, V.home, hp, Bool.true_and]
        exact hi
      simp only [cornersTo, hb, if_true, List.length_append, List.length_singleton, ih (by omega)]
  exact all _ (Nat.le_refl _)
variable (hw : ∀ k, (wy m.ways k).wait = 0)
omit V in
include hw in
theorem free_us (l s : List Int) : ∀ k, usT m l k = usT m s k ∧ usE m l k = usE m s k
  | 0 => ⟨rfl, rfl⟩
  | k + 1 => by
    obtain ⟨it, ie⟩ := free_us l s k
    have e : waitT m l k = waitT m s k := by unfold waitT; rw [hw]; simp
    simp only [usT, usE, it, ie, e]
    exact ⟨trivial, trivial⟩
include hw
theorem free_kind {l s : List Int} (hs : ∀ x, x ∈ s → x ∈ l) {k : Nat} (hk : k + 1 < m.ways.length) (h : kindV m s k = 0) : kindV m l k = 0 := by
  have ra := rd_sub m hs k
  have rb := rd_sub m hs (k + 1)
  have b1 := rd_le V l (k := k) (by omega)
  have b2 := rd_le V s (k := k) (by omega)
  have b3 := rd_le V l (k := k + 1) hk
  have b4 := rd_le V s (k := k + 1) hk
  unfold kindV at h ⊢
  rw [(free_us hw l s (k + 1)).1, (free_us hw l s (k + 1)).2]
  by_cases h1 : clrB m k (rdA m s k) (k + 1) (rdB m s (k + 1)) = false
  · rw [if_pos h1] at h; omega
  · rw [if_neg h1] at h
    rw [if_neg (by rw [clr_less V (by omega) hk ⟨b1.2.2.1, ra.2, b2.2.2.2⟩ ⟨b3.1, rb.1, b4.2.1⟩ (by simpa using h1)]; simp)]
    by_cases h2 : bkC m (k + 1) (rdB m s (k + 1)) (dep m (k + 1)) = false
    · rw [if_pos h2] at h; omega
    · rw [if_neg h2] at h
      rw [if_neg (by rw [bk_less V hs hk _ (Nat.le_refl _) (by simpa using h2)]; simp)]
      have c1 := bk_bd V l hk (j := dep m (k + 1)) (Nat.le_refl _)
      have c2 := bk_bd V s hk (j := dep m (k + 1)) (Nat.le_refl _)
      by_cases h3 : lieB m (bkR m (k + 1) (rdB m s (k + 1)) (dep m (k + 1))) = false
      · rw [if_pos h3] at h; omega
      · rw [if_neg h3] at h
        rw [if_neg (by rw [lie_less V ⟨c1.1, by rw [bkR_home, bkR_home]; omega, c2.2⟩ (by simpa using h3)]; simp)]
        exact h
theorem free_lead {l s : List Int} (hs : ∀ x, x ∈ s → x ∈ l) : leadN m s ≤ leadN m l := by
  obtain ⟨a1, a2, a3⟩ := lead_spec m s
  obtain ⟨b1, b2, b3⟩ := lead_spec m l
  rcases Nat.lt_or_ge (leadN m l) (leadN m s) with e | e
  · exact (b3 (by omega) (free_kind V hw hs (by omega) (a2 _ e))).elim
  · exact e
end
/-- what both calls of Keeps come to -/
theorem free_law {m : Msn} (hV : validB m = true) (u : Nat) : kpE (frM m) (fixL (frM m)) = 0 ∧ kpE (frM m) (chosenL (fixL (frM m)) u) = 0 ∧ kpL (frM m) (chosenL (fixL (frM m)) u) ≤ kpL (frM m) (fixL (frM m)) := by
  have hF := fr_valid hV
  have V := (validB_iff _).1 hF
  have hsub := chosen_sub (fixL (frM m)) u
  obtain ⟨a1, -, a3⟩ := kp_of (sub_ok hF (List.Sublist.refl (fixL (frM m))))
  obtain ⟨b1, -, b3⟩ := kp_of (sub_ok hF hsub)
  refine ⟨a3, b3, ?_⟩
  rw [a1, b1]
  unfold leadV
  have := free_lead V (fr_wait m) (fun x hx => hsub.subset hx)
  omega
end Go.Proofs.YtfbdidfaeplllaaGreat
