/- Plain: the growths of a way out and of the route home. -/
import Derived.Test.YtjnjmpakmgmdbaaRoute
namespace Go.Proofs.Ytjnjmpakmgmdbaa

/-- growths of the legs on -/
def onsTo (m : Msn) : Nat → Int
  | 0 => m.start
  | k + 1 => onsTo m k + gLeg m k (k + 1)
/-- growths of the legs back -/
def backsTo (m : Msn) : Nat → Int
  | 0 => 0
  | k + 1 => backsTo m k + gLeg m (k + 1) (wy m.ways (k + 1)).back.toNat
/-- growths of the first legs of the route home -/
def homeP (m : Msn) (a : Nat) : Nat → Int
  | 0 => 0
  | j + 1 => homeP m a j + gLeg m (itB m a j) (itB m a (j + 1))
theorem grown_split (m : Msn) : ∀ k, grownTo m k = onsTo m k + backsTo m k
  | 0 => by simp [grownTo, onsTo, backsTo]
  | k + 1 => by simp only [grownTo, onsTo, backsTo, grown_split m k]; omega
theorem homeP_succ (m : Msn) (a : Nat) : ∀ j, homeP m a (j + 1) = gLeg m a (wy m.ways a).back.toNat + homeP m (wy m.ways a).back.toNat j
  | 0 => by simp [homeP, itB]
  | j + 1 => by
    rw [homeP, homeP_succ m a j, itB_succ, itB_succ, homeP]
    omega
section
variable {m : Msn} (hm : legOk m) (hw : waysB m.ways = true)
include hm hw
theorem backs_mono (i : Nat) : ∀ k, i ≤ k → k < m.ways.length → backsTo m i ≤ backsTo m k
  | 0, h, _ => by obtain rfl : i = 0 := by omega
                  exact Int.le_refl _
  | k + 1, h, h' => by
    by_cases e : i = k + 1
    · rw [e]; exact Int.le_refl _
    · have ih := backs_mono i k (by omega) (by omega)
      have b := way_back hw h'
      have g := gLeg_bd hm hw (i := k + 1) (j := (wy m.ways (k + 1)).back.toNat) h' (by omega)
      simp only [backsTo]; omega
theorem home_le : ∀ (f a : Nat), a ≤ f → a < m.ways.length → homeP m a (depF m f a) ≤ backsTo m a
  | 0, a, hf, ha => by
    obtain rfl : a = 0 := by omega
    simp [depF, homeP, backsTo]
  | f + 1, a, hf, ha => by
    unfold depF
    by_cases h0 : a = 0
    · subst h0; simp [homeP, backsTo]
    · rw [if_neg h0, homeP_succ]
      have hb := back_lt hw ha (by omega)
      have ih := home_le f (wy m.ways a).back.toNat (by omega) (by omega)
      obtain ⟨k, rfl⟩ : ∃ k, a = k + 1 := ⟨a - 1, by omega⟩
      have hmn := backs_mono hm hw (wy m.ways (k + 1)).back.toNat k (by omega) (by omega)
      simp only [backsTo]; omega
theorem home_bd {a : Nat} (ha : a < m.ways.length) : ∀ j, j ≤ dep m a → 0 ≤ homeP m a j ∧ homeP m a j ≤ j * 1000000000000
  | 0, _ => by simp [homeP]
  | j + 1, h => by
    have ih := home_bd ha j (by omega)
    have g := gLeg_bd hm hw (itB_lt hw ha (j := j) (by omega)) (itB_lt hw ha h)
    simp only [homeP]; omega
theorem ons_bd (hs : 0 ≤ m.start ∧ m.start ≤ 100000) : ∀ k, k < m.ways.length → 0 ≤ onsTo m k ∧ onsTo m k ≤ 100000 + k * 1000000000000
  | 0, _ => by simp [onsTo]; omega
  | k + 1, h => by
    have ih := ons_bd hs k (by omega)
    have g := gLeg_bd hm hw (i := k) (j := k + 1) (by omega) h
    simp only [onsTo]; omega
theorem radii_le (hs : 0 ≤ m.start ∧ m.start ≤ 100000) (hg : grownV m ≤ 100000) {a : Nat} (ha : a < m.ways.length) : onsTo m a + homeP m a (dep m a) ≤ 100000 := by
  have h1 := home_le hm hw a a (Nat.le_refl _) ha
  have h2 := grownTo_mono hm hs hw a (m.ways.length - 1) (by omega) (by omega)
  rw [grown_split m a] at h2
  unfold grownV at hg
  change homeP m a (dep m a) ≤ _ at h1
  omega
end
end Go.Proofs.Ytjnjmpakmgmdbaa
