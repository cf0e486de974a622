/- Plain: the growths of all legs of a mission. -/
import Derived.Test.YtjnjmpakmgmdbaaLeg
namespace Go.Proofs.Ytjnjmpakmgmdbaa

/-- the numbers of a mission that legs are reckoned from -/
def legOk (m : Msn) : Prop := 1 ≤ m.speed ∧ m.speed ≤ 20000 ∧ 0 ≤ m.part ∧ m.part ≤ 500 ∧ 0 ≤ m.flow ∧ m.flow ≤ 5000
def nearP (x y : Int) : Prop := -300000 ≤ x ∧ x ≤ 300000 ∧ -300000 ≤ y ∧ y ≤ 300000

/-- all ways are well-formed -/
def waysB (l : List Wy) : Bool := decide (∀ j, j < l.length → wayB j (wy l j) = true)
theorem waysB_at {l : List Wy} (h : waysB l = true) {j : Nat} (hj : j < l.length) : wayB j (wy l j) = true := (of_decide_eq_true h) j hj
theorem way_near {l : List Wy} (h : waysB l = true) {j : Nat} (hj : j < l.length) : nearP (wy l j).x (wy l j).y := by
  have := wayB_true (waysB_at h hj); unfold nearP; omega
theorem way_back {l : List Wy} (h : waysB l = true) {j : Nat} (hj : j < l.length) : 0 ≤ (wy l j).back ∧ (wy l j).back ≤ ((j - 1 : Nat) : Int) ∧ (wy l j).back < l.length := by
  have := wayB_true (waysB_at h hj); omega

/-- length, time, growth of a leg -/
def dLeg (m : Msn) (i j : Nat) : Int := distV (wy m.ways i).x (wy m.ways i).y (wy m.ways j).x (wy m.ways j).y
def tLeg (m : Msn) (i j : Nat) : Int := lastsV m.speed (dLeg m i j)
def gLeg (m : Msn) (i j : Nat) : Int := growthV m.speed m.part m.flow (dLeg m i j)
def grownTo (m : Msn) : Nat → Int
  | 0 => m.start
  | k + 1 => grownTo m k + (gLeg m k (k + 1) + gLeg m (k + 1) (wy m.ways (k + 1)).back.toNat)
def grownV (m : Msn) : Int := grownTo m (m.ways.length - 1)

theorem dLeg_bd {m : Msn} (hw : waysB m.ways = true) {i j : Nat} (hi : i < m.ways.length) (hj : j < m.ways.length) : 0 ≤ dLeg m i j ∧ dLeg m i j ≤ 900000 := by
  obtain ⟨a1, a2, a3, a4⟩ := way_near hw hi
  obtain ⟨b1, b2, b3, b4⟩ := way_near hw hj
  have := dist_bd a1 a2 a3 a4 b1 b2 b3 b4
  exact ⟨this.2.2.1, this.2.2.2⟩
theorem tLeg_bd {m : Msn} (hm : legOk m) (hw : waysB m.ways = true) {i j : Nat} (hi : i < m.ways.length) (hj : j < m.ways.length) : 0 ≤ tLeg m i j ∧ tLeg m i j ≤ 90000000 :=
  lasts_bd (dLeg_bd hw hi hj).1 (dLeg_bd hw hi hj).2 hm.1
theorem gLeg_bd {m : Msn} (hm : legOk m) (hw : waysB m.ways = true) {i j : Nat} (hi : i < m.ways.length) (hj : j < m.ways.length) : 0 ≤ gLeg m i j ∧ gLeg m i j ≤ 1000000000000 := by
  obtain ⟨m1, m2, m3, m4, m5, m6⟩ := hm
  have d := dLeg_bd hw hi hj
  have := growth_bd (speed := m.speed) (part := m.part) (flow := m.flow) d.1 d.2 m1 m3 m4 m5 m6
  exact ⟨this.2.2.2.2.1, this.2.2.2.2.2⟩
theorem grownTo_bd {m : Msn} (hm : legOk m) (hs : 0 ≤ m.start ∧ m.start ≤ 100000) (hw : waysB m.ways = true) : ∀ k : Nat, k < m.ways.length → m.start ≤ grownTo m k ∧ grownTo m k ≤ 100000 + k * 2000000000000
  | 0, _ => by simp [grownTo]; omega
  | k + 1, h => by
    have ih := grownTo_bd hm hs hw k (by omega)
    have g1 := gLeg_bd hm hw (i := k) (j := k + 1) (by omega) h
    have b := way_back hw h
    have g2 := gLeg_bd hm hw (i := k + 1) (j := (wy m.ways (k + 1)).back.toNat) h (by omega)
    simp only [grownTo]
    omega
theorem grownTo_mono {m : Msn} (hm : legOk m) (hs : 0 ≤ m.start ∧ m.start ≤ 100000) (hw : waysB m.ways = true) (i : Nat) : ∀ k : Nat, i ≤ k → k < m.ways.length → grownTo m i ≤ grownTo m k
  | 0, h, _ => by obtain rfl : i = 0 := by omega
                  exact Int.le_refl _
  | k + 1, h, h' => by
    by_cases e : i = k + 1
    · rw [e]; exact Int.le_refl _
    · have ih := grownTo_mono hm hs hw i k (by omega) (by omega)
      have g1 := gLeg_bd hm hw (i := k) (j := k + 1) (by omega) h'
      have b := way_back hw h'
      have g2 := gLeg_bd hm hw (i := k + 1) (j := (wy m.ways (k + 1)).back.toNat) h' (by omega)
      simp only [grownTo]
      omega
end Go.Proofs.Ytjnjmpakmgmdbaa
