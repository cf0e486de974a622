/- The examples at the head of the laws of layer 34. | The head of the laws of layer 34; few. -/
import Derived.Test.YtjnjmpakmgmdbaaHead31
import Derived.Test.YtjnjmpakmgmdbaaRUsed
namespace Go.Proofs.Ytjnjmpakmgmdbaa
open Go.RowKit
attribute [local irreducible] wpQuiet

/-- the mission of the examples -/
def exP : Msn := ⟨[⟨0, 0, 0, 0, 0⟩, ⟨300, 400, 1, 10, 0⟩, ⟨600, 800, 0, 0, 1⟩], [⟨0, 0⟩], 0, [], 1000, 0, 0, 2, 1, 0, 0⟩
theorem exP_dist : dLeg exP 0 1 = 500 ∧ dLeg exP 1 0 = 500 ∧ dLeg exP 1 2 = 500 ∧ dLeg exP 2 1 = 500 :=
  ⟨dist_of (by decide) (by decide), dist_of (by decide) (by decide), dist_of (by decide) (by decide), dist_of (by decide) (by decide)⟩
theorem exP_g : growthV exP.speed exP.part exP.flow 500 = 0 ∧ lastsV exP.speed 500 = 50 := by decide
theorem exP_grown : grownV exP = 0 := by
  obtain ⟨d1, d2, d3, d4⟩ := exP_dist
  show exP.start + (gLeg exP 0 1 + gLeg exP 1 0) + (gLeg exP 1 2 + gLeg exP 2 1) = 0
  unfold gLeg
  rw [d1, d2, d3, d4, exP_g.1]
  rfl
theorem exP_valid : validB exP = true := by
  rw [validB_iff]
  refine ⟨by decide, by decide, by decide, by decide, ?_, ?_, by decide, by unfold legOk; decide, by decide, by decide, by decide, by decide, by rw [exP_grown]; decide⟩
  · simp only [goValid, decide_eq_true_eq]
    refine ⟨by decide, by decide, fun k hk => ?_, fun h => absurd h (by decide)⟩
    obtain rfl : k = 0 := by simp [exP] at hk; omega
    exact ⟨by decide, fun h => by omega⟩
  · simp [rocksB, exP]

theorem lt3 {p : Nat → Prop} (h0 : p 0) (h1 : p 1) (h2 : p 2) : ∀ j, j < 3 → p j := fun j hj => match j, hj with
  | 0, _ => h0
  | 1, _ => h1
  | 2, _ => h2
set_option maxRecDepth 4000 in
set_option maxHeartbeats 800000 in
theorem example34_any (w : World) : Calls Try.prog 62 #[] w (MsnQ exP w) := by
  go_enter Try.func62, Try.ntmps62
  go_wp2
  have BX : Below w.heap.size w (((w.alloc (.cells #[.slice (some ⟨w.heap.size + 1, 0, none⟩) 3 3, .slice (some ⟨w.heap.size + 1 + 1, 0, none⟩) 1 1, .int .i64 0, .slice none 0 0, .int .i64 1000, .int .i64 0, .int .i64 0, .int .i64 2, .int .i64 1, .int .i64 0, .int .i64 0] 26)).alloc (.cells #[.int .i64 0, .int .i64 0, .int .i64 0, .int .i64 0, .int .i64 0, .int .i64 300, .int .i64 400, .int .i64 1, .int .i64 10, .int .i64 0, .int .i64 600, .int .i64 800, .int .i64 0, .int .i64 0, .int .i64 1] 40)).alloc (.cells #[.int .i64 0, .int .i64 0] 38)) := (((Below.refl _ _).alloc (Nat.le_refl _) _).alloc (by first | omega | (simp; done) | (simp; omega)) _).alloc (by first | omega | (simp; done) | (simp; omega)) _
  have HA := Has.new w #[.slice (some ⟨w.heap.size + 1, 0, none⟩) 3 3, .slice (some ⟨w.heap.size + 1 + 1, 0, none⟩) 1 1, .int .i64 0, .slice none 0 0, .int .i64 1000, .int .i64 0, .int .i64 0, .int .i64 2, .int .i64 1, .int .i64 0, .int .i64 0] 26
  have sA : (w.alloc (.cells #[.slice (some ⟨w.heap.size + 1, 0, none⟩) 3 3, .slice (some ⟨w.heap.size + 1 + 1, 0, none⟩) 1 1, .int .i64 0, .slice none 0 0, .int .i64 1000, .int .i64 0, .int .i64 0, .int .i64 2, .int .i64 1, .int .i64 0, .int .i64 0] 26)).heap.size = w.heap.size + 1 := by simp
  have HB := Has.new (w.alloc (.cells #[.slice (some ⟨w.heap.size + 1, 0, none⟩) 3 3, .slice (some ⟨w.heap.size + 1 + 1, 0, none⟩) 1 1, .int .i64 0, .slice none 0 0, .int .i64 1000, .int .i64 0, .int .i64 0, .int .i64 2, .int .i64 1, .int .i64 0, .int .i64 0] 26)) #[.int .i64 0, .int .i64 0, .int .i64 0, .int .i64 0, .int .i64 0, .int .i64 300, .int .i64 400, .int .i64 1, .int .i64 10, .int .i64 0, .int .i64 600, .int .i64 800, .int .i64 0, .int .i64 0, .int .i64 1] 40
  have sB : ((w.alloc (.cells #[.slice (some ⟨w.heap.size + 1, 0, none⟩) 3 3, .slice (some ⟨w.heap.size + 1 + 1, 0, none⟩) 1 1, .int .i64 0, .slice none 0 0, .int .i64 1000, .int .i64 0, .int .i64 0, .int .i64 2, .int .i64 1, .int .i64 0, .int .i64 0] 26)).alloc (.cells #[.int .i64 0, .int .i64 0, .int .i64 0, .int .i64 0, .int .i64 0, .int .i64 300, .int .i64 400, .int .i64 1, .int .i64 10, .int .i64 0, .int .i64 600, .int .i64 800, .int .i64 0, .int .i64 0, .int .i64 1] 40)).heap.size = w.heap.size + 1 + 1 := by simp
  have HC := Has.new ((w.alloc (.cells #[.slice (some ⟨w.heap.size + 1, 0, none⟩) 3 3, .slice (some ⟨w.heap.size + 1 + 1, 0, none⟩) 1 1, .int .i64 0, .slice none 0 0, .int .i64 1000, .int .i64 0, .int .i64 0, .int .i64 2, .int .i64 1, .int .i64 0, .int .i64 0] 26)).alloc (.cells #[.int .i64 0, .int .i64 0, .int .i64 0, .int .i64 0, .int .i64 0, .int .i64 300, .int .i64 400, .int .i64 1, .int .i64 10, .int .i64 0, .int .i64 600, .int .i64 800, .int .i64 0, .int .i64 0, .int .i64 1] 40)) #[.int .i64 0, .int .i64 0] 38
  have sC : (((w.alloc (.cells #[.slice (some ⟨w.heap.size + 1, 0, none⟩) 3 3, .slice (some ⟨w.heap.size + 1 + 1, 0, none⟩) 1 1, .int .i64 0, .slice none 0 0, .int .i64 1000, .int .i64 0, .int .i64 0, .int .i64 2, .int .i64 1, .int .i64 0, .int .i64 0] 26)).alloc (.cells #[.int .i64 0, .int .i64 0, .int .i64 0, .int .i64 0, .int .i64 0, .int .i64 300, .int .i64 400, .int .i64 1, .int .i64 10, .int .i64 0, .int .i64 600, .int .i64 800, .int .i64 0, .int .i64 0, .int .i64 1] 40)).alloc (.cells #[.int .i64 0, .int .i64 0] 38)).heap.size = w.heap.size + 1 + 1 + 1 := by simp
  have b1 : Below (w.heap.size + 1) (w.alloc (.cells #[.slice (some ⟨w.heap.size + 1, 0, none⟩) 3 3, .slice (some ⟨w.heap.size + 1 + 1, 0, none⟩) 1 1, .int .i64 0, .slice none 0 0, .int .i64 1000, .int .i64 0, .int .i64 0, .int .i64 2, .int .i64 1, .int .i64 0, .int .i64 0] 26)) ((w.alloc (.cells #[.slice (some ⟨w.heap.size + 1, 0, none⟩) 3 3, .slice (some ⟨w.heap.size + 1 + 1, 0, none⟩) 1 1, .int .i64 0, .slice none 0 0, .int .i64 1000, .int .i64 0, .int .i64 0, .int .i64 2, .int .i64 1, .int .i64 0, .int .i64 0] 26)).alloc (.cells #[.int .i64 0, .int .i64 0, .int .i64 0, .int .i64 0, .int .i64 0, .int .i64 300, .int .i64 400, .int .i64 1, .int .i64 10, .int .i64 0, .int .i64 600, .int .i64 800, .int .i64 0, .int .i64 0, .int .i64 1] 40)) := (Below.refl _ _).alloc (by omega) _
  have b2 : Below (w.heap.size + 1 + 1) ((w.alloc (.cells #[.slice (some ⟨w.heap.size + 1, 0, none⟩) 3 3, .slice (some ⟨w.heap.size + 1 + 1, 0, none⟩) 1 1, .int .i64 0, .slice none 0 0, .int .i64 1000, .int .i64 0, .int .i64 0, .int .i64 2, .int .i64 1, .int .i64 0, .int .i64 0] 26)).alloc (.cells #[.int .i64 0, .int .i64 0, .int .i64 0, .int .i64 0, .int .i64 0, .int .i64 300, .int .i64 400, .int .i64 1, .int .i64 10, .int .i64 0, .int .i64 600, .int .i64 800, .int .i64 0, .int .i64 0, .int .i64 1] 40)) (((w.alloc (.cells #[.slice (some ⟨w.heap.size + 1, 0, none⟩) 3 3, .slice (some ⟨w.heap.size + 1 + 1, 0, none⟩) 1 1, .int .i64 0, .slice none 0 0, .int .i64 1000, .int .i64 0, .int .i64 0, .int .i64 2, .int .i64 1, .int .i64 0, .int .i64 0] 26)).alloc (.cells #[.int .i64 0, .int .i64 0, .int .i64 0, .int .i64 0, .int .i64 0, .int .i64 300, .int .i64 400, .int .i64 1, .int .i64 10, .int .i64 0, .int .i64 600, .int .i64 800, .int .i64 0, .int .i64 0, .int .i64 1] 40)).alloc (.cells #[.int .i64 0, .int .i64 0] 38)) := (Below.refl _ _).alloc (by omega) _
  rw [sA] at HB
  rw [sB] at HC
  have HA2 := (HA.below b1 (by omega)).below b2 (by omega)
  have HB2 := HB.below b2 (by omega)
  clear HA HB b1 b2 sA sB
  generalize ((w.alloc (.cells #[.slice (some ⟨w.heap.size + 1, 0, none⟩) 3 3, .slice (some ⟨w.heap.size + 1 + 1, 0, none⟩) 1 1, .int .i64 0, .slice none 0 0, .int .i64 1000, .int .i64 0, .int .i64 0, .int .i64 2, .int .i64 1, .int .i64 0, .int .i64 0] 26)).alloc (.cells #[.int .i64 0, .int .i64 0, .int .i64 0, .int .i64 0, .int .i64 0, .int .i64 300, .int .i64 400, .int .i64 1, .int .i64 10, .int .i64 0, .int .i64 600, .int .i64 800, .int .i64 0, .int .i64 0, .int .i64 1] 40)).alloc (.cells #[.int .i64 0, .int .i64 0] 38) = Z at *
  have hMZ : MsnAt Z.heap.size Z exP (.slice (some ⟨w.heap.size + 1, 0, none⟩) 3 3) (.slice (some ⟨w.heap.size + 1 + 1, 0, none⟩) 1 1) (.slice none 0 0) := by
    refine ⟨⟨by simp [exP], some ⟨w.heap.size + 1, 0, none⟩, 0, rfl, .inr ⟨w.heap.size + 1, 0, rfl, by omega, ?_⟩⟩, ⟨by simp [exP], some ⟨w.heap.size + 1 + 1, 0, none⟩, 0, rfl, .inr ⟨w.heap.size + 1 + 1, 0, rfl, by omega, fun j hj => ?_⟩⟩, ⟨by simp [exP], none, 0, rfl, .inl rfl⟩⟩
    · refine lt3 ?_ ?_ ?_
      · exact ⟨HB2.cell (i := 0) rfl, HB2.cell (i := 1) rfl, HB2.cell (i := 2) rfl, HB2.cell (i := 3) rfl, HB2.cell (i := 4) rfl⟩
      · exact ⟨HB2.cell (i := 5) rfl, HB2.cell (i := 6) rfl, HB2.cell (i := 7) rfl, HB2.cell (i := 8) rfl, HB2.cell (i := 9) rfl⟩
      · exact ⟨HB2.cell (i := 10) rfl, HB2.cell (i := 11) rfl, HB2.cell (i := 12) rfl, HB2.cell (i := 13) rfl, HB2.cell (i := 14) rfl⟩
    · obtain rfl : j = 0 := by simp [exP] at hj; omega
      exact ⟨HC.cell (i := 0) rfl, HC.cell (i := 1) rfl⟩
  have hQ' : Hid (MsnQ exP w (.returned (.agg (msnCells exP (.slice (some ⟨w.heap.size + 1, 0, none⟩) 3 3) (.slice (some ⟨w.heap.size + 1 + 1, 0, none⟩) 1 1) (.slice none 0 0)))) Z) := ⟨_, _, _, rfl, hMZ, BX⟩
  obtain ⟨c0, c1, c2, c3, c4, c5, c6, c7, c8, c9, c10⟩ := msn_cells (m := exP) (vw := .slice (some ⟨w.heap.size + 1, 0, none⟩) 3 3) (vh := .slice (some ⟨w.heap.size + 1 + 1, 0, none⟩) 1 1) (vr := .slice none 0 0) HA2
  refine bodyPost_ret (v := .agg (msnCells exP (.slice (some ⟨w.heap.size + 1, 0, none⟩) 3 3) (.slice (some ⟨w.heap.size + 1 + 1, 0, none⟩) 1 1) (.slice none 0 0))) (by simp [results, Try.f62, go_sem, c0, c1, c2, c3, c4, c5, c6, c7, c8, c9, c10]; rfl) rfl hQ'.out
end Go.Proofs.Ytjnjmpakmgmdbaa

namespace Go.Proofs.Ytjnjmpakmgmdbaa
open Go.RowKit
attribute [local irreducible] wpQuiet

theorem exP_t : tLeg exP 0 1 = 50 ∧ tLeg exP 1 2 = 50 ∧ tLeg exP 2 1 = 50 ∧ tLeg exP 1 0 = 50 := by
  obtain ⟨d1, d2, d3, d4⟩ := exP_dist
  unfold tLeg
  rw [d1, d2, d3, d4, exP_g.2]
  exact ⟨rfl, rfl, rfl, rfl⟩
theorem exP_e : eLeg exP 0 1 = 600 ∧ eLeg exP 1 2 = 600 ∧ eLeg exP 2 1 = 600 ∧ eLeg exP 1 0 = 600 := by
  obtain ⟨d1, d2, d3, d4⟩ := exP_dist
  obtain ⟨t1, t2, t3, t4⟩ := exP_t
  unfold eLeg
  rw [d1, d2, d3, d4, t1, t2, t3, t4]
  decide
theorem exP_cost : pT exP 0 1 = 50 ∧ pE exP 0 1 = 600 ∧ legE exP 0 1 = 0 := by
  have h : okL exP 0 1 = true := okL_mk (a := 0) (b := 1) exP_valid (by decide) (by decide)
  simp only [pT, pE, legE, h, if_true]
  exact ⟨exP_t.1, exP_e.1, trivial⟩
theorem exP_u1 : usedTR exP [1] = [0, 50, 110] ∧ usedER exP [1] = [0, 600, 1220] ∧ usedC exP [1] = 0 := by
  have h : usedOk exP [1] = true := by simp [usedOk, exP_valid]; decide
  simp only [usedTR, usedER, usedC, h, if_true]
  obtain ⟨t1, t2, _, _⟩ := exP_t
  obtain ⟨e1, e2, _, _⟩ := exP_e
  refine ⟨?_, ?_, trivial⟩
  · show [usT exP [1] 0, usT exP [1] 1, usT exP [1] 2] = _
    simp only [usT]
    rw [t1, t2]
    decide
  · show [usE exP [1] 0, usE exP [1] 1, usE exP [1] 2] = _
    simp only [usE]
    rw [e1, e2]
    decide
theorem exP_u0 : usedTR exP [] = [0, 50, 100] ∧ usedER exP [] = [0, 600, 1200] ∧ usedC exP [] = 0 := by
  have h : usedOk exP [] = true := by simp [usedOk, exP_valid]; decide
  simp only [usedTR, usedER, usedC, h, if_true]
  obtain ⟨t1, t2, _, _⟩ := exP_t
  obtain ⟨e1, e2, _, _⟩ := exP_e
  refine ⟨?_, ?_, trivial⟩
  · show [usT exP [] 0, usT exP [] 1, usT exP [] 2] = _
    simp only [usT]
    rw [t1, t2]
    decide
  · show [usE exP [] 0, usE exP [] 1, usE exP [] 2] = _
    simp only [usE]
    rw [e1, e2]
    decide
theorem exP_u2 : usedC exP [2] = 1 := by
  have h : usedOk exP [2] = false := by simp [usedOk, exP_valid]; decide
  simp only [usedC, h, Bool.false_eq_true, if_false]
theorem exP_home : hT exP 2 = 100 ∧ hE exP 2 = 1200 ∧ routeE exP 2 = 0 := by
  have h : okR exP 2 = true := okR_mk (a := 2) exP_valid (by decide)
  simp only [hT, hE, routeE, h, if_true]
  obtain ⟨_, _, t3, t4⟩ := exP_t
  obtain ⟨_, _, e3, e4⟩ := exP_e
  have hd : dep exP 2 = 2 := by decide
  refine ⟨?_, ?_, trivial⟩
  · show homeT exP 2 (dep exP 2) = _
    rw [hd]
    show 0 + tLeg exP 2 1 + tLeg exP 1 0 = _
    rw [t3, t4]; rfl
  · show homeE exP 2 (dep exP 2) = _
    rw [hd]
    show 0 + eLeg exP 2 1 + eLeg exP 1 0 = _
    rw [e3, e4]; rfl

set_option maxRecDepth 8000 in
set_option maxHeartbeats 2000000 in
theorem head34_any (w : World) : Calls Try.prog 24 #[] w fun e w' => e = .returned (.bool true) ∧ Below w.heap.size w w' := by
  go_enter Try.func24, Try.ntmps24
  go_wp2_with fail
  refine (example34_any _).mono ?_
  rintro e w1 ⟨vw, vh, vr, rfl, hm, B0⟩
  have HM := Lib.hid hm
  obtain ⟨⟨_, aw, cw, rfl, _⟩, ⟨_, ah, ch, rfl, _⟩, ⟨_, ar, cr, rfl, _⟩⟩ := hm
  rw [show exP.ways.length = 3 from rfl, show exP.home.length = 1 from rfl, show exP.rocks.length = 0 from rfl, Nat.zero_add] at HM ⊢
  have hc := fun w1 h => pcost_all exP (.slice aw 3 (3 + cw)) (.slice ah 1 (1 + ch)) (.slice ar 0 cr) 0 1 w1 h
  rw [exP_cost.1, exP_cost.2.1, exP_cost.2.2] at hc
  have hu1 := fun v w1 h1 h2 => used_all exP (.slice aw 3 (3 + cw)) (.slice ah 1 (1 + ch)) (.slice ar 0 cr) v [1] w1 h1 h2
  rw [exP_u1.1, exP_u1.2.1, exP_u1.2.2] at hu1
  have hu0 := fun v w1 h1 h2 => used_all exP (.slice aw 3 (3 + cw)) (.slice ah 1 (1 + ch)) (.slice ar 0 cr) v [] w1 h1 h2
  rw [exP_u0.1, exP_u0.2.1, exP_u0.2.2] at hu0
  have hu2 := fun v w1 h1 h2 => used_all exP (.slice aw 3 (3 + cw)) (.slice ah 1 (1 + ch)) (.slice ar 0 cr) v [2] w1 h1 h2
  rw [exP_u2] at hu2
  have hh := fun w1 h => phome_all exP (.slice aw 3 (3 + cw)) (.slice ah 1 (1 + ch)) (.slice ar 0 cr) 2 w1 h
  rw [exP_home.1, exP_home.2.1, exP_home.2.2] at hh
  have HL := Lib.hid (And.intro hc (And.intro hu1 (And.intro hu0 (And.intro hu2 hh))))
  have H1' := Lib.hid (Has.new w1 (msnCells exP (.slice aw 3 (3 + cw)) (.slice ah 1 (1 + ch)) (.slice ar 0 cr)) 26)
  have B0' := Lib.hid B0
  clear hc hu1 hu0 hu2 hh B0
  unfold msnCells exP at *
  dsimp only at *
  go_wp2_with fail
  refine (HL.out.1 _ ((HM.out.below ((Below.refl _ _).alloc (Nat.le_refl _) _)).mono (by simp))).mono ?_
  rintro e w2 ⟨rfl, hb2⟩
  have B2 : Below w1.heap.size w1 w2 := ((Below.refl _ w1).alloc (Nat.le_refl _) _).trans (hb2.mono (by simp))
  have H2 := H1'.out.below (hb2.mono (by simp) : Below (w1.heap.size + 1) _ w2) (by omega)
  have z2 := H2.lt
  have H2' := Lib.hid H2
  obtain ⟨c0, c1, c2, c3, c4, c5, c6, c7, c8, c9, c10⟩ := msn_cells (m := exP) H2
  clear hb2 H2
  go_wp2_with fail
  have bA3 : Below w2.heap.size w2 (w2.alloc (.cells #[.int .i64 1] 3)) := (Below.refl _ _).alloc (Nat.le_refl _) _
  refine (HL.out.2.1 _ _ ((HM.out.below (B2.trans (bA3.mono B2.size))).mono (B2.trans (bA3.mono B2.size)).size) (ints_new w2 [1] 3 (by simp))).mono ?_
  rintro e w3 ⟨va, vb, rfl, Ia, Ib, hb3⟩
  replace hb3 := bA3.trans (hb3.mono bA3.size)
  clear bA3
  have B3 := B2.trans (hb3.mono B2.size)
  have H3 := H2'.out.below hb3 z2
  have z3 := H3.lt
  have H3' := Lib.hid H3
  obtain ⟨c0, c1, c2, c3, c4, c5, c6, c7, c8, c9, c10⟩ := msn_cells (m := exP) (vw := .slice aw 3 (3 + cw)) (vh := .slice ah 1 (1 + ch)) (vr := .slice ar 0 cr) H3
  have Ja3 := Lib.hid Ia
  have Jb3 := Lib.hid Ib
  clear Ia Ib
  have y3 : w3.heap.size ≤ w3.heap.size := Nat.le_refl _
  clear hb3 H3
  go_wp2_with fail
  refine (HL.out.2.2.1 _ _ ((HM.out.below B3).mono B3.size) (IntsAt.nil _ _)).mono ?_
  rintro e w4 ⟨vc, vd, rfl, Ic, Id, hb4⟩
  have B4 := B3.trans (hb4.mono B3.size)
  have H4 := H3'.out.below hb4 z3
  have z4 := H4.lt
  have H4' := Lib.hid H4
  obtain ⟨c0, c1, c2, c3, c4, c5, c6, c7, c8, c9, c10⟩ := msn_cells (m := exP) (vw := .slice aw 3 (3 + cw)) (vh := .slice ah 1 (1 + ch)) (vr := .slice ar 0 cr) H4
  have Ja4 := Lib.hid (Ja3.out.below hb4)
  have Jb4 := Lib.hid (Jb3.out.below hb4)
  have Jc4 := Lib.hid Ic
  have Jd4 := Lib.hid Id
  clear Ic Id Ja3 Jb3 y3
  have y4 : w3.heap.size ≤ w4.heap.size := hb4.size
  clear hb4 H4
  go_wp2_with fail
  refine (HL.out.2.2.2.2 _ ((HM.out.below B4).mono B4.size)).mono ?_
  rintro e w5 ⟨rfl, hb5⟩
  have B5 := B4.trans (hb5.mono B4.size)
  have H5 := H4'.out.below hb5 z4
  have z5 := H5.lt
  have H5' := Lib.hid H5
  obtain ⟨c0, c1, c2, c3, c4, c5, c6, c7, c8, c9, c10⟩ := msn_cells (m := exP) (vw := .slice aw 3 (3 + cw)) (vh := .slice ah 1 (1 + ch)) (vr := .slice ar 0 cr) H5
  have Ja5 := Lib.hid (Ja4.out.below (hb5.mono y4))
  have Jb5 := Lib.hid (Jb4.out.below (hb5.mono y4))
  have Jc5 := Lib.hid (Jc4.out.below hb5)
  have Jd5 := Lib.hid (Jd4.out.below hb5)
  clear Ja4 Jb4 Jc4 Jd4
  have x5 : w4.heap.size ≤ w5.heap.size := hb5.size
  have y5 : w3.heap.size ≤ w5.heap.size := Nat.le_trans y4 hb5.size
  clear hb5 H5
  go_wp2_with fail
  have bA6 : Below w5.heap.size w5 (w5.alloc (.cells #[.int .i64 2] 3)) := (Below.refl _ _).alloc (Nat.le_refl _) _
  refine (HL.out.2.2.2.1 _ _ ((HM.out.below (B5.trans (bA6.mono B5.size))).mono (B5.trans (bA6.mono B5.size)).size) (ints_new w5 [2] 3 (by simp))).mono ?_
  rintro e w6 ⟨ve, vf, rfl, _, _, hb6⟩
  replace hb6 := bA6.trans (hb6.mono bA6.size)
  clear bA6
  have B6 := B5.trans (hb6.mono B5.size)
  have H6 := H5'.out.below hb6 z5
  have z6 := H6.lt
  have H6' := Lib.hid H6
  obtain ⟨c0, c1, c2, c3, c4, c5, c6, c7, c8, c9, c10⟩ := msn_cells (m := exP) (vw := .slice aw 3 (3 + cw)) (vh := .slice ah 1 (1 + ch)) (vr := .slice ar 0 cr) H6
  have Ja6 := Lib.hid (Ja5.out.below (hb6.mono y5))
  have Jb6 := Lib.hid (Jb5.out.below (hb6.mono y5))
  have Jc6 := Lib.hid (Jc5.out.below (hb6.mono x5))
  have Jd6 := Lib.hid (Jd5.out.below (hb6.mono x5))
  clear Ja5 Jb5 Jc5 Jd5
  have x6 : w4.heap.size ≤ w6.heap.size := Nat.le_trans x5 hb6.size
  have y6 : w3.heap.size ≤ w6.heap.size := Nat.le_trans y5 hb6.size
  clear hb6 H6
  go_wp2_with fail
  have bA : Below w6.heap.size w6 (w6.alloc (.cells #[.int .i64 0, .int .i64 50, .int .i64 110] 3)) := (Below.refl _ _).alloc (Nat.le_refl _) _
  refine (same_any _ _ [0, 50, 110] [0, 50, 110] _ ((Ja6.out.below (bA.mono y6)).mono (Nat.le_trans y6 bA.size)) (ints_new w6 [0, 50, 110] 3 (by simp))).mono ?_
  rintro e w7 ⟨rfl, hb⟩
  have d7 : decide (([0, 50, 110] : List Int) = [0, 50, 110]) = true := by decide
  replace hb := bA.trans (hb.mono bA.size)
  clear bA
  have B7 := B6.trans (hb.mono B6.size)
  have Jb7 := Lib.hid (Jb6.out.below (hb.mono y6))
  have Jc7 := Lib.hid (Jc6.out.below (hb.mono x6))
  have Jd7 := Lib.hid (Jd6.out.below (hb.mono x6))
  have x7 : w4.heap.size ≤ w7.heap.size := Nat.le_trans x6 hb.size
  have y7 : w3.heap.size ≤ w7.heap.size := Nat.le_trans y6 hb.size
  clear hb
  go_wp2_with fail
  have bA : Below w7.heap.size w7 (w7.alloc (.cells #[.int .i64 0, .int .i64 600, .int .i64 1220] 3)) := (Below.refl _ _).alloc (Nat.le_refl _) _
  refine (same_any _ _ [0, 600, 1220] [0, 600, 1220] _ ((Jb7.out.below (bA.mono y7)).mono (Nat.le_trans y7 bA.size)) (ints_new w7 [0, 600, 1220] 3 (by simp))).mono ?_
  rintro e w8 ⟨rfl, hb⟩
  have d8 : decide (([0, 600, 1220] : List Int) = [0, 600, 1220]) = true := by decide
  replace hb := bA.trans (hb.mono bA.size)
  clear bA
  have B8 := B7.trans (hb.mono B7.size)
  have Jc8 := Lib.hid (Jc7.out.below (hb.mono x7))
  have Jd8 := Lib.hid (Jd7.out.below (hb.mono x7))
  have x8 : w4.heap.size ≤ w8.heap.size := Nat.le_trans x7 hb.size
  have y8 : w3.heap.size ≤ w8.heap.size := Nat.le_trans y7 hb.size
  clear hb
  go_wp2_with fail
  have bA : Below w8.heap.size w8 (w8.alloc (.cells #[.int .i64 0, .int .i64 50, .int .i64 100] 3)) := (Below.refl _ _).alloc (Nat.le_refl _) _
  refine (same_any _ _ [0, 50, 100] [0, 50, 100] _ ((Jc8.out.below (bA.mono x8)).mono (Nat.le_trans x8 bA.size)) (ints_new w8 [0, 50, 100] 3 (by simp))).mono ?_
  rintro e w9 ⟨rfl, hb⟩
  have d9 : decide (([0, 50, 100] : List Int) = [0, 50, 100]) = true := by decide
  replace hb := bA.trans (hb.mono bA.size)
  clear bA
  have B9 := B8.trans (hb.mono B8.size)
  have Jd9 := Lib.hid (Jd8.out.below (hb.mono x8))
  have x9 : w4.heap.size ≤ w9.heap.size := Nat.le_trans x8 hb.size
  have y9 : w3.heap.size ≤ w9.heap.size := Nat.le_trans y8 hb.size
  clear hb
  go_wp2_with fail
  have bA : Below w9.heap.size w9 (w9.alloc (.cells #[.int .i64 0, .int .i64 600, .int .i64 1200] 3)) := (Below.refl _ _).alloc (Nat.le_refl _) _
  refine (same_any _ _ [0, 600, 1200] [0, 600, 1200] _ ((Jd9.out.below (bA.mono x9)).mono (Nat.le_trans x9 bA.size)) (ints_new w9 [0, 600, 1200] 3 (by simp))).mono ?_
  rintro e w10 ⟨rfl, hb⟩
  have d10 : decide (([0, 600, 1200] : List Int) = [0, 600, 1200]) = true := by decide
  replace hb := bA.trans (hb.mono bA.size)
  clear bA
  have B10 := B9.trans (hb.mono B9.size)
  have x10 : w4.heap.size ≤ w10.heap.size := Nat.le_trans x9 hb.size
  have y10 : w3.heap.size ≤ w10.heap.size := Nat.le_trans y9 hb.size
  clear hb
  have BF := Lib.hid (B0'.out.trans (B10.mono B0'.out.size))
  clear B2 B3 B4 B5 B6 B7 B8 B9 B10
  go_wp2
  go_ret
  exact ⟨rfl, BF.out⟩

/-- mission and stops may be looked at -/
def few34B (m : Msn) (l : List Int) : Bool := fewB m && decide (l.length ≤ 20) && decide (0 < m.ways.length)
set_option maxRecDepth 4000 in
theorem few34_any (m : Msn) (vw vh vr vl : Value) (l : List Int) (w : World) (hm : MsnAt w.heap.size w m vw vh vr) (hl : ∃ a cap, vl = .slice a l.length (l.length + cap)) :
    Calls Try.prog 31 #[.agg (msnCells m vw vh vr), vl] w fun e w' => e = .returned (.bool (few34B m l)) ∧ Below w.heap.size w w' := by
  obtain ⟨al, capl, rfl⟩ := hl
  have hf := few_any m vw vh vr (w.alloc (.cells (msnCells m vw vh vr) 26)) ((hm.below ((Below.refl _ _).alloc (Nat.le_refl _) _)).mono (by simp))
  have H0 := Has.new w (msnCells m vw vh vr) 26
  have H0' := Lib.hid H0
  obtain ⟨_, a1, cap1, rfl, _⟩ := hm.1
  cases hfew : fewB m
  · rw [hfew] at hf
    have hR : Hid (few34B m l = false) := by show few34B m l = false; simp [few34B, hfew]
    have hf := Lib.hid hf
    clear hfew hm H0
    unfold msnCells at *
    go_enter Try.func31, Try.ntmps31
    go_wp2_with fail; refine (hf.out).mono ?_; rintro e w1 ⟨rfl, hb1⟩; have B1 : Below w.heap.size w w1 := ((Below.refl _ w).alloc (Nat.le_refl _) _).trans (hb1.mono (by simp)); have H1 := H0'.out.below (hb1.mono (by simp) : Below (w.heap.size + 1) _ w1) (by omega); have z1 := H1.lt; have H1' := Lib.hid H1; obtain ⟨c0, c1, c2, c3, c4, c5, c6, c7, c8, c9, c10⟩ := msn_cells (m := m) (vw := .slice a1 m.ways.length (m.ways.length + cap1)) (vh := vh) (vr := vr) H1; clear hb1 H1
    go_wp2
    go_ret
    exact ⟨by rw [hR.out]; rfl, B1⟩
  · rw [hfew] at hf
    have hR : Hid (few34B m l = (decide (l.length ≤ 20) && decide (0 < m.ways.length))) := by show few34B m l = _; simp [few34B, hfew]
    have hf := Lib.hid hf
    clear hfew hm H0
    unfold msnCells at *
    by_cases h1 : l.length ≤ 20
    · have d1 : decide ((l.length : Int) ≤ 20) = true := by rw [decide_eq_true_eq]; omega
      by_cases h2 : 0 < m.ways.length
      · have d2 : decide ((m.ways.length : Int) > 0) = true := by rw [decide_eq_true_eq]; omega
        have hR2 : Hid (few34B m l = true) := by show few34B m l = true; rw [hR.out]; simp [h1, h2]
        go_enter Try.func31, Try.ntmps31
        go_wp2_with fail; refine (hf.out).mono ?_; rintro e w1 ⟨rfl, hb1⟩; have B1 : Below w.heap.size w w1 := ((Below.refl _ w).alloc (Nat.le_refl _) _).trans (hb1.mono (by simp)); have H1 := H0'.out.below (hb1.mono (by simp) : Below (w.heap.size + 1) _ w1) (by omega); have z1 := H1.lt; have H1' := Lib.hid H1; obtain ⟨c0, c1, c2, c3, c4, c5, c6, c7, c8, c9, c10⟩ := msn_cells (m := m) (vw := .slice a1 m.ways.length (m.ways.length + cap1)) (vh := vh) (vr := vr) H1; clear hb1 H1
        go_wp2
        go_ret
        exact ⟨by rw [hR2.out]; rfl, B1⟩
      · have d2 : decide ((m.ways.length : Int) > 0) = false := by rw [decide_eq_false_iff_not]; omega
        have hR2 : Hid (few34B m l = false) := by show few34B m l = false; rw [hR.out]; simp [h2]
        go_enter Try.func31, Try.ntmps31
        go_wp2_with fail; refine (hf.out).mono ?_; rintro e w1 ⟨rfl, hb1⟩; have B1 : Below w.heap.size w w1 := ((Below.refl _ w).alloc (Nat.le_refl _) _).trans (hb1.mono (by simp)); have H1 := H0'.out.below (hb1.mono (by simp) : Below (w.heap.size + 1) _ w1) (by omega); have z1 := H1.lt; have H1' := Lib.hid H1; obtain ⟨c0, c1, c2, c3, c4, c5, c6, c7, c8, c9, c10⟩ := msn_cells (m := m) (vw := .slice a1 m.ways.length (m.ways.length + cap1)) (vh := vh) (vr := vr) H1; clear hb1 H1
        go_wp2
        go_ret
        exact ⟨by rw [hR2.out]; rfl, B1⟩
    · have d1 : decide ((l.length : Int) ≤ 20) = false := by rw [decide_eq_false_iff_not]; omega
      have hR2 : Hid (few34B m l = false) := by show few34B m l = false; rw [hR.out]; simp [h1]
      go_enter Try.func31, Try.ntmps31
      go_wp2_with fail; refine (hf.out).mono ?_; rintro e w1 ⟨rfl, hb1⟩; have B1 : Below w.heap.size w w1 := ((Below.refl _ w).alloc (Nat.le_refl _) _).trans (hb1.mono (by simp)); have H1 := H0'.out.below (hb1.mono (by simp) : Below (w.heap.size + 1) _ w1) (by omega); have z1 := H1.lt; have H1' := Lib.hid H1; obtain ⟨c0, c1, c2, c3, c4, c5, c6, c7, c8, c9, c10⟩ := msn_cells (m := m) (vw := .slice a1 m.ways.length (m.ways.length + cap1)) (vh := vh) (vr := vr) H1; clear hb1 H1
      go_wp2
      go_ret
      exact ⟨by rw [hR2.out]; rfl, B1⟩
theorem few34_ways {m : Msn} {l : List Int} (h : few34B m l = true) : 0 < m.ways.length := by
  simp only [few34B, Bool.and_eq_true, decide_eq_true_eq] at h
  exact h.2
theorem few34_len {m : Msn} {l : List Int} (h : few34B m l = true) : l.length ≤ 20 := by
  simp only [few34B, Bool.and_eq_true, decide_eq_true_eq] at h
  exact h.1.2
end Go.Proofs.Ytjnjmpakmgmdbaa
