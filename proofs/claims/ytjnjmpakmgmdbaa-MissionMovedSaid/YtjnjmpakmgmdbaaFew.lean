/- The reference's Few. -/
import Derived.Test.YtjnjmpakmgmdbaaMLeg
import Derived.LoopTactic
namespace Go.Proofs.Ytjnjmpakmgmdbaa
open Go.RowKit
attribute [local irreducible] wpQuiet

/-- how many corners the first rocks have -/
def fewTo (l : List (List Pt)) : Nat → Nat
  | 0 => 0
  | k + 1 => fewTo l k + (rk l k).length
def fewB (m : Msn) : Bool := decide (m.ways.length ≤ 8) && decide (m.rocks.length ≤ 12) && decide (fewTo m.rocks (min m.rocks.length 13) ≤ 120) && decide (m.home.length ≤ 80)

set_option maxHeartbeats 1600000 in
theorem few_any (m : Msn) (vw vh vr : Value) (w : World) (hm : MsnAt w.heap.size w m vw vh vr) :
    Calls Try.prog 16 #[.agg (msnCells m vw vh vr)] w fun e w' => e = .returned (.bool (fewB m)) ∧ Below w.heap.size w w' := by
  obtain ⟨_, a1, cap1, rfl, _⟩ := hm.1
  obtain ⟨_, a2, cap2, rfl, _⟩ := hm.2.1
  obtain ⟨hlr, a3, cap3, rfl, hrc⟩ := hm.2.2
  have H0 := Has.new w (msnCells m (.slice a1 m.ways.length (m.ways.length + cap1)) (.slice a2 m.home.length (m.home.length + cap2)) (.slice a3 m.rocks.length (m.rocks.length + cap3))) 26
  have H0H := Lib.hid H0
  have hrcH := Lib.hid hrc
  clear hm H0 hrc
  unfold msnCells
  go_enter Try.func16, Try.ntmps16
  go_wp2
  go_loopw [3, 4] (fun s i wr => ∃ k : Nat, k ≤ m.rocks.length ∧ k ≤ 13 ∧ i = .int .i64 k ∧ s = .int .i64 (fewTo m.rocks k : Nat) ∧ fewTo m.rocks k ≤ k * 70368744177663 ∧ Has wr w.heap.size (msnCells m (.slice a1 m.ways.length (m.ways.length + cap1)) (.slice a2 m.home.length (m.home.length + cap2)) (.slice a3 m.rocks.length (m.rocks.length + cap3))) 26 ∧ Below w.heap.size w wr) (fun _ i _ => 13 - (intOf i).toNat)
  case atStart => exact ⟨0, by omega, by omega, rfl, rfl, by simp [fewTo], H0H.out, (Below.refl _ _).alloc (Nat.le_refl _) _⟩
  case round =>
    obtain ⟨k, hk, hk13, rfl, rfl, hsm, H, hB⟩ := hrel
    obtain ⟨c0, c1, c2, c3, c4, c5, c6, c7, c8, c9, c10⟩ := msn_cells H
    have HH := Lib.hid H
    clear H
    by_cases hlt : k < m.rocks.length
    · have e1 : decide ((k : Int) < m.rocks.length) = true := by simp; omega
      by_cases h13 : k < 13
      · have e2 : decide ((k : Int) < 13) = true := by simp; omega
        obtain ⟨b, o, rfl, hb, hcs⟩ : ∃ b o, a3 = some ⟨b, o, none⟩ ∧ b < w.heap.size ∧ ∀ j, j < m.rocks.length → ∃ u, w.cell? ⟨b, o + j, none⟩ = some u ∧ PtsAt w.heap.size w u (rk m.rocks j) := by
          rcases hrcH.out with h0 | h
          · rw [h0] at hlt; simp at hlt
          · exact h
        obtain ⟨u, hu, ⟨hlu, a, cap, rfl, _⟩⟩ := hcs k hlt
        have cu := (hB.cell (p := ⟨b, o + k, none⟩) hb).trans hu
        have hs1 : fewTo m.rocks (k + 1) = fewTo m.rocks k + (rk m.rocks k).length := rfl
        have hs1' := Lib.hid hs1
        clear hcs hu hs1
        go_wp2
        go_roundw
        case rel => exact ⟨k + 1, by omega, by omega, by go_num, by rw [hs1'.out]; go_num, by rw [hs1'.out]; omega, HH.out, hB⟩
        case measure => simp [intOf]; omega
      · obtain rfl : k = 13 := by omega
        have e2 : decide ((13 : Int) < 13) = false := by simp
        have hn : Hid (fewB m = false) := by show fewB m = false; simp [fewB]; omega
        by_cases g1 : m.ways.length ≤ 8
        · have f1 : decide ((m.ways.length : Int) ≤ 8) = true := by simp; omega
          have f2 : decide ((m.rocks.length : Int) ≤ 12) = false := by simp; omega
          go_wp2
          go_ret
          exact ⟨ret_bool hn.out.symm, hB⟩
        · have f1 : decide ((m.ways.length : Int) ≤ 8) = false := by simp; omega
          go_wp2
          go_ret
          exact ⟨ret_bool hn.out.symm, hB⟩
    · obtain rfl : k = m.rocks.length := by omega
      have e1 : decide ((m.rocks.length : Int) < m.rocks.length) = false := by simp
      have hmin : min m.rocks.length 13 = m.rocks.length := by omega
      by_cases g1 : m.ways.length ≤ 8
      · have f1 : decide ((m.ways.length : Int) ≤ 8) = true := by simp; omega
        by_cases g2 : m.rocks.length ≤ 12
        · have f2 : decide ((m.rocks.length : Int) ≤ 12) = true := by simp; omega
          by_cases g3 : fewTo m.rocks m.rocks.length ≤ 120
          · have f3 : decide (((fewTo m.rocks m.rocks.length : Nat) : Int) ≤ 120) = true := by simp; omega
            have hn : Hid (fewB m = decide (m.home.length ≤ 80)) := by show fewB m = _; simp [fewB, hmin, g1, g2, g3]
            by_cases g4 : m.home.length ≤ 80
            · have f4 : decide ((m.home.length : Int) ≤ 80) = true := by simp; omega
              clear hmin
              go_wp2
              go_ret
              exact ⟨ret_bool (by rw [hn.out]; simp [g4]), hB⟩
            · have f4 : decide ((m.home.length : Int) ≤ 80) = false := by simp; omega
              clear hmin
              go_wp2
              go_ret
              exact ⟨ret_bool (by rw [hn.out]; simp [g4]), hB⟩
          · have f3 : decide (((fewTo m.rocks m.rocks.length : Nat) : Int) ≤ 120) = false := by simp; omega
            have hn : Hid (fewB m = false) := by show fewB m = false; simp [fewB, hmin, g3]
            clear hmin
            go_wp2
            go_ret
            exact ⟨ret_bool hn.out.symm, hB⟩
        · have f2 : decide ((m.rocks.length : Int) ≤ 12) = false := by simp; omega
          have hn : Hid (fewB m = false) := by show fewB m = false; simp [fewB, g2]
          clear hmin
          go_wp2
          go_ret
          exact ⟨ret_bool hn.out.symm, hB⟩
      · have f1 : decide ((m.ways.length : Int) ≤ 8) = false := by simp; omega
        have hn : Hid (fewB m = false) := by show fewB m = false; simp [fewB, g1]
        clear hmin
        go_wp2
        go_ret
        exact ⟨ret_bool hn.out.symm, hB⟩
end Go.Proofs.Ytjnjmpakmgmdbaa
