/- Plain: the route home. -/
import Derived.Test.YtjnjmpakmgmdbaaGrow
namespace Go.Proofs.Ytjnjmpakmgmdbaa

/-- the way after j steps home -/
def itB (m : Msn) (k : Nat) : Nat → Nat
  | 0 => k
  | j + 1 => (wy m.ways (itB m k j)).back.toNat
def depF (m : Msn) : Nat → Nat → Nat
  | 0, _ => 0
  | f + 1, k => if k = 0 then 0 else depF m f (wy m.ways k).back.toNat + 1
/-- how many steps it is home -/
def dep (m : Msn) (k : Nat) : Nat := depF m k k

theorem itB_succ (m : Msn) (k j : Nat) : itB m k (j + 1) = itB m (wy m.ways k).back.toNat j := by
  induction j with
  | zero => rfl
  | succ j ih => show (wy m.ways (itB m k (j + 1))).back.toNat = _; rw [ih]; rfl
theorem back_lt {m : Msn} (hw : waysB m.ways = true) {k : Nat} (hk : k < m.ways.length) (h0 : 0 < k) : (wy m.ways k).back.toNat < k := by
  have := way_back hw hk; omega
theorem dep_any {m : Msn} (hw : waysB m.ways = true) : ∀ (f k : Nat), k ≤ f → k < m.ways.length → itB m k (depF m f k) = 0 ∧ (∀ j, j < depF m f k → 0 < itB m k j) ∧ depF m f k ≤ k ∧ (∀ j, j ≤ depF m f k → itB m k j < m.ways.length)
  | 0, k, hf, hk => by
    obtain rfl : k = 0 := by omega
    exact ⟨rfl, fun j hj => by simp [depF] at hj, by simp [depF], fun j hj => by simp [depF] at hj; subst hj; exact hk⟩
  | f + 1, k, hf, hk => by
    unfold depF
    by_cases h0 : k = 0
    · subst h0
      rw [if_pos rfl]
      exact ⟨rfl, fun j hj => by omega, by omega, fun j hj => by obtain rfl : j = 0 := by omega
                                                                 exact hk⟩
    · rw [if_neg h0]
      have hb := back_lt hw hk (by omega)
      obtain ⟨i1, i2, i3, i4⟩ := dep_any hw f (wy m.ways k).back.toNat (by omega) (by omega)
      refine ⟨by rw [itB_succ]; exact i1, fun j hj => ?_, by omega, fun j hj => ?_⟩
      · cases j with
        | zero => show 0 < k; omega
        | succ j => rw [itB_succ]; exact i2 j (by omega)
      · cases j with
        | zero => exact hk
        | succ j => rw [itB_succ]; exact i4 j (by omega)
section
variable {m : Msn} {k : Nat}
theorem dep_end (hw : waysB m.ways = true) (hk : k < m.ways.length) : itB m k (dep m k) = 0 := (dep_any hw k k (Nat.le_refl _) hk).1
theorem dep_pos (hw : waysB m.ways = true) (hk : k < m.ways.length) {j : Nat} (hj : j < dep m k) : 0 < itB m k j := (dep_any hw k k (Nat.le_refl _) hk).2.1 j hj
theorem dep_le (hw : waysB m.ways = true) (hk : k < m.ways.length) : dep m k ≤ k := (dep_any hw k k (Nat.le_refl _) hk).2.2.1
theorem itB_lt (hw : waysB m.ways = true) (hk : k < m.ways.length) {j : Nat} (hj : j ≤ dep m k) : itB m k j < m.ways.length := (dep_any hw k k (Nat.le_refl _) hk).2.2.2 j hj
theorem itB_dec (hw : waysB m.ways = true) (hk : k < m.ways.length) {j : Nat} (hj : j < dep m k) : itB m k (j + 1) < itB m k j := back_lt hw (itB_lt hw hk (by omega)) (dep_pos hw hk hj)
theorem dep_of_zero (hw : waysB m.ways = true) (hk : k < m.ways.length) {j : Nat} (hj : j ≤ dep m k) (h : itB m k j = 0) : j = dep m k := by
  rcases Nat.lt_or_ge j (dep m k) with h1 | h1
  · have := dep_pos hw hk h1; omega
  · omega
end
/-- the route home -/
def routeL (m : Msn) (k : Nat) : List Nat := (List.range (dep m k + 1)).map (itB m k)
end Go.Proofs.Ytjnjmpakmgmdbaa
