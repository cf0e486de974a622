/- Both functions Valid of layer 3 say the same. -/
import Derived.Test.YtjnjmpakmgmdbaaRef3V
namespace Go.Proofs.Ytjnjmpakmgmdbaa

theorem turnP_self (a c : Pt) : turnP a a c = 0 := by unfold turnP turnV; simp
theorem turnP_swap (a b d : Pt) : turnP a d b = -turnP a b d := by
  unfold turnP turnV
  rw [Int.mul_comm (d.x - a.x), Int.mul_comm (d.y - a.y)]
  omega
theorem cmpP_self (a : Pt) : cmpP a a = 0 := by simp [cmpP, cmpV, orI, cmpI]

theorem go_distinct {l : List Pt} (hl : ∀ k, 1 ≤ k → k < l.length → cmpP (nth l 0) (nth l k) < 0)
    (hg : ∀ i, i < l.length → ∀ k, k < l.length → nth l k ≠ nth l i → nth l k ≠ nth l ((i + 1) % l.length) → 0 < turnP (nth l i) (nth l ((i + 1) % l.length)) (nth l k)) :
    ∀ (t j k : Nat), l.length - k = t → j < k → k < l.length → nth l j ≠ nth l k := by
  have h0 : ∀ k, 1 ≤ k → k < l.length → nth l 0 ≠ nth l k := fun k h1 h2 e => by
    have := hl k h1 h2
    rw [← e, cmpP_self] at this
    omega
  intro t
  induction t using Nat.strongRecOn with
  | _ t ih =>
    intro j k ht hjk hk e
    have hj : 1 ≤ j := by
      rcases Nat.eq_zero_or_pos j with h | h
      · subst h; exact absurd e (h0 k hjk hk)
      · exact h
    have hj1 : (j + 1) % l.length = j + 1 := Nat.mod_eq_of_lt (by omega)
    have n0 : nth l 0 ≠ nth l j := h0 j hj (by omega)
    have n0k : nth l 0 ≠ nth l k := h0 k (by omega) hk
    -- the corners behind both differ
    have hne : nth l (j + 1) ≠ nth l ((k + 1) % l.length) := by
      by_cases hk1 : k + 1 = l.length
      · rw [hk1, Nat.mod_self]
        exact fun h => h0 (j + 1) (by omega) (by omega) h.symm
      · rw [Nat.mod_eq_of_lt (by omega)]
        exact ih (l.length - (k + 1)) (by omega) (j + 1) (k + 1) rfl (by omega) (by omega)
    have hAB : nth l j ≠ nth l (j + 1) := fun h => by
      have := hg j (by omega) 0 (by omega) n0 (by rw [hj1, ← h]; exact n0)
      rw [hj1, ← h, turnP_self] at this
      omega
    have hAD : nth l k ≠ nth l ((k + 1) % l.length) := fun h => by
      have := hg k hk 0 (by omega) n0k (by rw [← h]; exact n0k)
      rw [← h, turnP_self] at this
      omega
    have hm : (k + 1) % l.length < l.length := Nat.mod_lt _ (by omega)
    have t1 := hg j (by omega) ((k + 1) % l.length) hm (by rw [e]; exact Ne.symm hAD) (by rw [hj1]; exact Ne.symm hne)
    have t2 := hg k hk (j + 1) (by omega) (by rw [← e]; exact Ne.symm hAB) hne
    rw [hj1] at t1
    rw [← e, turnP_swap] at t2
    omega

theorem go_iff_ref (l : List Pt) : GoValid l ↔ RefValid l := by
  constructor
  · rintro ⟨h1, h2, h3, h4⟩
    have hl : ∀ k, 1 ≤ k → k < l.length → cmpP (nth l 0) (nth l k) < 0 := fun k a b => (h3 k b).2 (by omega)
    refine ⟨h1, h2, fun k hk => (h3 k hk).1, hl, fun hn i hi k hk hki hkm => ?_⟩
    have hg := h4 (by omega)
    have hd := go_distinct hl hg
    have ne : ∀ a b, a < l.length → b < l.length → a ≠ b → nth l a ≠ nth l b := fun a b ha hb hab => by
      rcases Nat.lt_or_gt_of_ne hab with h | h
      · exact hd _ a b rfl h hb
      · exact fun e => hd _ b a rfl h ha e.symm
    exact hg i hi k hk (ne k i hk hi hki) (ne k _ hk (Nat.mod_lt _ (by omega)) hkm)
  · rintro ⟨h1, h2, h3, h4, h5⟩
    refine ⟨h1, h2, fun k hk => ⟨h3 k hk, fun h => h4 k h hk⟩, fun hn i hi k hk a b => ?_⟩
    exact h5 (by omega) i hi k hk (fun e => a (by rw [e]; rfl)) (fun e => b (by rw [e]; rfl))

theorem go_eq_ref (l : List Pt) : goValid l = refValid l := by
  rw [Bool.eq_iff_iff]
  simp only [goValid, refValid, decide_eq_true_eq]
  exact go_iff_ref l
end Go.Proofs.Ytjnjmpakmgmdbaa
