/- For all missions and stops (up to 8 ways, 12 rocks and 20 stops): with twice Idle and Drive all energies are twice as great, and all times stay; without both there is no energy. No condition. -/
import Derived.Test.YtjnjmpakmgmdbaaHead34
import Derived.Test.YtjnjmpakmgmdbaaOpen
import Derived.Test.YtjnjmpakmgmdbaaCopy
import Derived.Deep.CutRange
namespace Go.Proofs.Ytjnjmpakmgmdbaa.powerTwice
open Go.ChangeShapes Go.WideShapes Go.ChangeAt Go.RowKit
set_option linter.unusedVariables false
theorem own : ownKnob Try.prog.godebug = none := by kernel_rfl
theorem laidOut : laidOutB Try.prog = true := by kernel_rfl
attribute [local irreducible] wpQuiet

/-- a mission with other powers -/
def withP (m : Msn) (a b : Int) : Msn := { m with idle := a, drive := b }
theorem grownTo_with (m : Msn) (a b : Int) : ∀ k, grownTo (withP m a b) k = grownTo m k
  | 0 => rfl
  | k + 1 => by
    have h := grownTo_with m a b k
    show grownTo (withP m a b) k + (gLeg m k (k + 1) + gLeg m (k + 1) (wy m.ways (k + 1)).back.toNat) = grownTo m k + (gLeg m k (k + 1) + gLeg m (k + 1) (wy m.ways (k + 1)).back.toNat)
    rw [h]
theorem grown_with (m : Msn) (a b : Int) : grownV (withP m a b) = grownV m := grownTo_with m a b _
theorem valid_with {m : Msn} (V : VMsn m) {a b : Int} (ha : 0 ≤ a ∧ a ≤ 1000) (hb : 0 ≤ b ∧ b ≤ 1000) : validB (withP m a b) = true :=
  (validB_iff _).2 ⟨V.n2, V.n41, V.nr, V.ways, V.home, V.rocks, V.start, V.leg, ha, hb, V.battery, V.deadline, by rw [grown_with]; exact V.grown⟩
theorem stops_with (m : Msn) (l : List Int) (a b : Int) : stopsB (withP m a b) l = stopsB m l := rfl
theorem usT_with (m : Msn) (l : List Int) (a b : Int) : ∀ k, usT (withP m a b) l k = usT m l k
  | 0 => rfl
  | k + 1 => by
    have h := usT_with m l a b k
    show usT (withP m a b) l k + waitT m l k + tLeg m k (k + 1) = usT m l k + waitT m l k + tLeg m k (k + 1)
    rw [h]
theorem usE_twice (m : Msn) (l : List Int) : ∀ k, usE (withP m (2 * m.idle) (2 * m.drive)) l k = 2 * usE m l k
  | 0 => rfl
  | k + 1 => by
    have h := usE_twice m l k
    show usE (withP m (2 * m.idle) (2 * m.drive)) l k + 2 * m.idle * waitT m l k + (2 * m.idle * tLeg m k (k + 1) + 2 * m.drive * dLeg m k (k + 1)) = 2 * (usE m l k + m.idle * waitT m l k + (m.idle * tLeg m k (k + 1) + m.drive * dLeg m k (k + 1)))
    rw [h, Int.mul_assoc, Int.mul_assoc, Int.mul_assoc]
    omega
theorem usE_none (m : Msn) (l : List Int) : ∀ k, usE (withP m 0 0) l k = 0
  | 0 => rfl
  | k + 1 => by
    have h := usE_none m l k
    show usE (withP m 0 0) l k + 0 * waitT m l k + (0 * tLeg m k (k + 1) + 0 * dLeg m k (k + 1)) = 0
    rw [h]; omega

theorem ints_at {n0 : Nat} {W : World} {v : Value} {l : List Int} {n : Nat} (h : IntsAt n0 W v l) (hl : l.length = n) (h0 : 0 < n) : ∃ b o cap, v = .slice (some ⟨b, o, none⟩) n (n + cap) ∧ b < n0 ∧ ∀ j, j < n → W.cell? ⟨b, o + j, none⟩ = some (.int .i64 (l.getD j 0)) := by
  subst hl
  obtain ⟨_, a, cap, rfl, hc⟩ := h
  rcases hc with hn | ⟨b, o, rfl, hb, hc⟩
  · rw [hn] at h0; simp at h0
  · exact ⟨b, o, cap, rfl, hb, hc⟩
theorem upto_get {f : Nat → Int} {n j : Nat} (hj : j < n) : (upto f n).getD j 0 = f j := by simp [upto, List.getD, hj]

set_option linter.unusedSimpArgs false in
set_option maxRecDepth 8000 in
set_option maxHeartbeats 3000000 in
theorem walk (w : World) (m : Msn) (vw vh vr vl : Value) (l : List Int) (hm : MsnAt w.heap.size w m vw vh vr) (hl : IntsAt w.heap.size w vl l) :
    Calls Try.prog 14 #[.agg (msnCells m vw vh vr), vl] w fun e w' => e = .returned (.bool true) ∧ Below w.heap.size w w' := by
  have HL0 := Lib.hid hl
  obtain ⟨hll, al, capl, rfl, hlc⟩ := hl
  have hlH := Lib.hid hlc
  clear hlc
  obtain ⟨_, a1, cap1, hvw, _⟩ := hm.1
  subst hvw
  have hff := fun w1 h => few34_any m (.slice a1 m.ways.length (m.ways.length + cap1)) vh vr (.slice al l.length (l.length + capl)) l w1 h ⟨al, capl, rfl⟩
  have HF := Lib.hid hff
  have H0 := Has.new w (msnCells m (.slice a1 m.ways.length (m.ways.length + cap1)) vh vr) 26
  have HM := Lib.hid hm
  have H0' := Lib.hid H0
  clear hff hm H0
  unfold msnCells at *
  go_enter Try.func14, Try.ntmps14
  go_wp2_with fail; refine (head34_any _).mono ?_; rintro e w1 ⟨rfl, hb1⟩; have B1 : Below w.heap.size w w1 := ((Below.refl _ w).alloc (Nat.le_refl _) _).trans (hb1.mono (by simp)); have H1 := H0'.out.below (hb1.mono (by simp) : Below (w.heap.size + 1) _ w1) (by omega); have z1 := H1.lt; have H1' := Lib.hid H1; obtain ⟨c0, c1, c2, c3, c4, c5, c6, c7, c8, c9, c10⟩ := msn_cells (m := m) (vw := .slice a1 m.ways.length (m.ways.length + cap1)) (vh := vh) (vr := vr) H1; clear hb1 H1
  go_wp2_with fail; refine (HF.out _ ((HM.out.below B1).mono B1.size)).mono ?_; rintro e w2 ⟨rfl, hb2⟩; have B2 := B1.trans (hb2.mono B1.size); have H2 := H1'.out.below hb2 z1; have z2 := H2.lt; have H2' := Lib.hid H2; obtain ⟨c0, c1, c2, c3, c4, c5, c6, c7, c8, c9, c10⟩ := msn_cells (m := m) (vw := .slice a1 m.ways.length (m.ways.length + cap1)) (vh := vh) (vr := vr) H2; clear hb2 H2
  cases hfew : few34B m l
  · go_wp2
    go_ret
    exact ⟨rfl, B2⟩
  have hfw := Lib.hid hfew
  have h0 : 0 < m.ways.length := few34_ways hfew
  clear hfew
  have hne : ¬ m.ways = [] := by intro h; rw [h] at h0; simp at h0
  by_cases hi : m.idle ≤ 500
  · have d1 : decide (m.idle > 500) = false := by rw [decide_eq_false_iff_not]; omega
    by_cases hd : m.drive ≤ 500
    · have d2 : decide (m.drive > 500) = false := by rw [decide_eq_false_iff_not]; omega
      have hone : (msnCells m (.slice a1 m.ways.length (m.ways.length + cap1)) vh vr).all (·.oneCell') = true := by
        obtain ⟨_, ⟨_, a2, cap2, rfl, _⟩, ⟨_, a3, cap3, rfl, _⟩⟩ := HM.out
        simp [msnCells, Value.oneCell']
      go_upto_region 4 with fail
      go_cut [6, 7] from 34 (fun b1 b2 wx => ∃ x y, b1 = .pointer (some ⟨x, 0, none⟩) ∧ b2 = .pointer (some ⟨y, 0, none⟩) ∧ x ≠ y ∧ w2.heap.size ≤ x ∧ w2.heap.size ≤ y ∧ Has wx x (msnCells m (.slice a1 m.ways.length (m.ways.length + cap1)) vh vr) 26 ∧ Has wx y (msnCells m (.slice a1 m.ways.length (m.ways.length + cap1)) vh vr) 26 ∧ Below w2.heap.size w2 wx)
      case first =>
        have hbx := H2'.out
        have hlx := hbx.lt
        refine (wpIn_wide (n := 9)).1 ?_
        refine wpIn_region_sched (lets_wide _) 5 (fun X => Has X w.heap.size (msnCells m (.slice a1 m.ways.length (m.ways.length + cap1)) vh vr) 26) (by kernel_rfl) (by kernel_rfl) (by kernel_rfl) fun hH inv0 => ?_
        refine sched_take hH (i := 0) (v := .agg (msnCells m (.slice a1 m.ways.length (m.ways.length + cap1)) vh vr)) (drop_get rfl) (by omega) inv0 (by kernel_rfl) (by kernel_rfl) rfl (fun X hX => ?_) fun inv1 => ?_
        · have hx := msn_cells hX; unfold msnCells; obtain ⟨c0, c1, c2, c3, c4, c5, c6, c7, c8, c9, c10⟩ := hx; go_simp
        simp only [Act.put, List.setIfInBounds_toArray, List.set_cons_zero, List.set_cons_succ]
        refine sched_take hH (i := 1) (v := .agg (msnCells m (.slice a1 m.ways.length (m.ways.length + cap1)) vh vr)) (drop_get rfl) (by omega) inv1 (by kernel_rfl) (by kernel_rfl) rfl (fun X hX => ?_) fun inv2 => ?_
        · have hx := msn_cells hX; unfold msnCells; obtain ⟨c0, c1, c2, c3, c4, c5, c6, c7, c8, c9, c10⟩ := hx; go_simp
        simp only [Act.put, List.setIfInBounds_toArray, List.set_cons_zero, List.set_cons_succ]
        have hS0 : Has w2.drew w.heap.size (msnCells m (.slice a1 m.ways.length (m.ways.length + cap1)) vh vr) 26 := hbx
        have hB0 : Below w2.heap.size w2 w2.drew := Below.drew (Below.refl _ _)
        have hz0 := hB0.size
        generalize w2.drew = X0 at hS0 hB0 hz0 ⊢
        clear inv0 inv1 inv2 hH
        refine sched_all (rs := [2, 3]) (by kernel_rfl) (by simp) hS0 (by simp) (fun i hi' => ?_)
        simp only [List.mem_cons, List.not_mem_nil, or_false] at hi'
        rcases hi' with rfl | rfl
        · refine okOp_run (drop_get rfl) rfl (v := .pointer (some ⟨X0.heap.size, 0, none⟩)) (w' := X0.alloc (.cells #[.slice none 0 0, .slice none 0 0, .int .i64 0, .slice none 0 0, .int .i64 0, .int .i64 0, .int .i64 0, .int .i64 0, .int .i64 0, .int .i64 0, .int .i64 0] 26)) (by go_simp) ?_
          simp only [Act.put, List.setIfInBounds_toArray, List.set_cons_zero, List.set_cons_succ]
          have hN0 := Has.new X0 #[.slice none 0 0, .slice none 0 0, .int .i64 0, .slice none 0 0, .int .i64 0, .int .i64 0, .int .i64 0, .int .i64 0, .int .i64 0, .int .i64 0, .int .i64 0] 26
          have hS1 := hS0.below ((Below.refl X0.heap.size X0).alloc (Nat.le_refl _) (.cells #[.slice none 0 0, .slice none 0 0, .int .i64 0, .slice none 0 0, .int .i64 0, .int .i64 0, .int .i64 0, .int .i64 0, .int .i64 0, .int .i64 0, .int .i64 0] 26)) hS0.lt
          have hB1 := hB0.alloc (by omega) (.cells #[.slice none 0 0, .slice none 0 0, .int .i64 0, .slice none 0 0, .int .i64 0, .int .i64 0, .int .i64 0, .int .i64 0, .int .i64 0, .int .i64 0, .int .i64 0] 26)
          have hz1 : X0.heap.size < (X0.alloc (.cells #[.slice none 0 0, .slice none 0 0, .int .i64 0, .slice none 0 0, .int .i64 0, .int .i64 0, .int .i64 0, .int .i64 0, .int .i64 0, .int .i64 0, .int .i64 0] 26)).heap.size := by simp
          generalize X0.alloc (.cells #[.slice none 0 0, .slice none 0 0, .int .i64 0, .slice none 0 0, .int .i64 0, .int .i64 0, .int .i64 0, .int .i64 0, .int .i64 0, .int .i64 0, .int .i64 0] 26) = X1 at hN0 hS1 hB1 hz1 ⊢
          refine sched_all (rs := [3]) (by kernel_rfl) (by simp) hS1 (by simp) (fun i hi' => ?_)
          simp only [List.mem_cons, List.not_mem_nil, or_false] at hi'
          subst hi'
          refine okOp_run (drop_get rfl) rfl (v := .pointer (some ⟨X1.heap.size, 0, none⟩)) (w' := X1.alloc (.cells #[.slice none 0 0, .slice none 0 0, .int .i64 0, .slice none 0 0, .int .i64 0, .int .i64 0, .int .i64 0, .int .i64 0, .int .i64 0, .int .i64 0, .int .i64 0] 26)) (by go_simp) ?_
          simp only [Act.put, List.setIfInBounds_toArray, List.set_cons_zero, List.set_cons_succ]
          have hN1 := Has.new X1 #[.slice none 0 0, .slice none 0 0, .int .i64 0, .slice none 0 0, .int .i64 0, .int .i64 0, .int .i64 0, .int .i64 0, .int .i64 0, .int .i64 0, .int .i64 0] 26
          have hM1 := hN0.below ((Below.refl X1.heap.size X1).alloc (Nat.le_refl _) (.cells #[.slice none 0 0, .slice none 0 0, .int .i64 0, .slice none 0 0, .int .i64 0, .int .i64 0, .int .i64 0, .int .i64 0, .int .i64 0, .int .i64 0, .int .i64 0] 26)) hN0.lt
          have hS2 := hS1.below ((Below.refl X1.heap.size X1).alloc (Nat.le_refl _) (.cells #[.slice none 0 0, .slice none 0 0, .int .i64 0, .slice none 0 0, .int .i64 0, .int .i64 0, .int .i64 0, .int .i64 0, .int .i64 0, .int .i64 0, .int .i64 0] 26)) hS1.lt
          have hB2 := hB1.alloc (by omega) (.cells #[.slice none 0 0, .slice none 0 0, .int .i64 0, .slice none 0 0, .int .i64 0, .int .i64 0, .int .i64 0, .int .i64 0, .int .i64 0, .int .i64 0, .int .i64 0] 26)
          have hl2 := hS0.lt
          generalize X1.alloc (.cells #[.slice none 0 0, .slice none 0 0, .int .i64 0, .slice none 0 0, .int .i64 0, .int .i64 0, .int .i64 0, .int .i64 0, .int .i64 0, .int .i64 0, .int .i64 0] 26) = X2 at hN1 hM1 hS2 hB2 ⊢
          refine sched_all (rs := [4]) (by kernel_rfl) (by simp) hS2 (by simp) (fun i hi' => ?_)
          simp only [List.mem_cons, List.not_mem_nil, or_false] at hi'
          subst hi'
          refine okOp_row (drop_get rfl) rfl rfl (g := X0.heap.size) (cells := (msnCells m (.slice a1 m.ways.length (m.ways.length + cap1)) vh vr)) rfl rfl hM1 (by kernel_rfl) rfl hone ?_
          simp only [Act.put, List.setIfInBounds_toArray, List.set_cons_zero, List.set_cons_succ]
          have hP := Has.put (cells := (msnCells m (.slice a1 m.ways.length (m.ways.length + cap1)) vh vr)) hM1
          have hO := Has.keep (cells := (msnCells m (.slice a1 m.ways.length (m.ways.length + cap1)) vh vr)) (C := X0.heap.size) hN1 (by omega)
          have hS3 := Has.keep (cells := (msnCells m (.slice a1 m.ways.length (m.ways.length + cap1)) vh vr)) (C := X0.heap.size) hS2 (by omega)
          have hB3 := Below.setRow hB2 (C := X0.heap.size) (by omega) (msnCells m (.slice a1 m.ways.length (m.ways.length + cap1)) vh vr)
          generalize X2.setRow X0.heap.size (msnCells m (.slice a1 m.ways.length (m.ways.length + cap1)) vh vr) = X3 at hP hO hS3 hB3 ⊢
          refine sched_done (by kernel_rfl) hS3 ?_
          simp only [List.drop_succ_cons, List.drop_zero]
          refine wpListIn_row rfl rfl (g := X1.heap.size) (cells := (msnCells m (.slice a1 m.ways.length (m.ways.length + cap1)) vh vr)) rfl rfl hO (by kernel_rfl) rfl hone ?_
          have hP2 := Has.put (cells := (msnCells m (.slice a1 m.ways.length (m.ways.length + cap1)) vh vr)) hO
          have hP1 := Has.keep (cells := (msnCells m (.slice a1 m.ways.length (m.ways.length + cap1)) vh vr)) (C := X1.heap.size) hP (by omega)
          have hB4 := Below.setRow hB3 (C := X1.heap.size) (by omega) (msnCells m (.slice a1 m.ways.length (m.ways.length + cap1)) vh vr)
          generalize X3.setRow X1.heap.size (msnCells m (.slice a1 m.ways.length (m.ways.length + cap1)) vh vr) = X4 at hP1 hP2 hB4 ⊢
          gi_wp2
          go_meet
          exact ⟨_, _, rfl, rfl, by omega, by omega, by omega, hP1, hP2, hB4⟩
        · refine okOp_run (drop_get rfl) rfl (v := .pointer (some ⟨X0.heap.size, 0, none⟩)) (w' := X0.alloc (.cells #[.slice none 0 0, .slice none 0 0, .int .i64 0, .slice none 0 0, .int .i64 0, .int .i64 0, .int .i64 0, .int .i64 0, .int .i64 0, .int .i64 0, .int .i64 0] 26)) (by go_simp) ?_
          simp only [Act.put, List.setIfInBounds_toArray, List.set_cons_zero, List.set_cons_succ]
          have hN0 := Has.new X0 #[.slice none 0 0, .slice none 0 0, .int .i64 0, .slice none 0 0, .int .i64 0, .int .i64 0, .int .i64 0, .int .i64 0, .int .i64 0, .int .i64 0, .int .i64 0] 26
          have hS1 := hS0.below ((Below.refl X0.heap.size X0).alloc (Nat.le_refl _) (.cells #[.slice none 0 0, .slice none 0 0, .int .i64 0, .slice none 0 0, .int .i64 0, .int .i64 0, .int .i64 0, .int .i64 0, .int .i64 0, .int .i64 0, .int .i64 0] 26)) hS0.lt
          have hB1 := hB0.alloc (by omega) (.cells #[.slice none 0 0, .slice none 0 0, .int .i64 0, .slice none 0 0, .int .i64 0, .int .i64 0, .int .i64 0, .int .i64 0, .int .i64 0, .int .i64 0, .int .i64 0] 26)
          have hz1 : X0.heap.size < (X0.alloc (.cells #[.slice none 0 0, .slice none 0 0, .int .i64 0, .slice none 0 0, .int .i64 0, .int .i64 0, .int .i64 0, .int .i64 0, .int .i64 0, .int .i64 0, .int .i64 0] 26)).heap.size := by simp
          generalize X0.alloc (.cells #[.slice none 0 0, .slice none 0 0, .int .i64 0, .slice none 0 0, .int .i64 0, .int .i64 0, .int .i64 0, .int .i64 0, .int .i64 0, .int .i64 0, .int .i64 0] 26) = X1 at hN0 hS1 hB1 hz1 ⊢
          refine sched_all (rs := [2]) (by kernel_rfl) (by simp) hS1 (by simp) (fun i hi' => ?_)
          simp only [List.mem_cons, List.not_mem_nil, or_false] at hi'
          subst hi'
          refine okOp_run (drop_get rfl) rfl (v := .pointer (some ⟨X1.heap.size, 0, none⟩)) (w' := X1.alloc (.cells #[.slice none 0 0, .slice none 0 0, .int .i64 0, .slice none 0 0, .int .i64 0, .int .i64 0, .int .i64 0, .int .i64 0, .int .i64 0, .int .i64 0, .int .i64 0] 26)) (by go_simp) ?_
          simp only [Act.put, List.setIfInBounds_toArray, List.set_cons_zero, List.set_cons_succ]
          have hN1 := Has.new X1 #[.slice none 0 0, .slice none 0 0, .int .i64 0, .slice none 0 0, .int .i64 0, .int .i64 0, .int .i64 0, .int .i64 0, .int .i64 0, .int .i64 0, .int .i64 0] 26
          have hM1 := hN0.below ((Below.refl X1.heap.size X1).alloc (Nat.le_refl _) (.cells #[.slice none 0 0, .slice none 0 0, .int .i64 0, .slice none 0 0, .int .i64 0, .int .i64 0, .int .i64 0, .int .i64 0, .int .i64 0, .int .i64 0, .int .i64 0] 26)) hN0.lt
          have hS2 := hS1.below ((Below.refl X1.heap.size X1).alloc (Nat.le_refl _) (.cells #[.slice none 0 0, .slice none 0 0, .int .i64 0, .slice none 0 0, .int .i64 0, .int .i64 0, .int .i64 0, .int .i64 0, .int .i64 0, .int .i64 0, .int .i64 0] 26)) hS1.lt
          have hB2 := hB1.alloc (by omega) (.cells #[.slice none 0 0, .slice none 0 0, .int .i64 0, .slice none 0 0, .int .i64 0, .int .i64 0, .int .i64 0, .int .i64 0, .int .i64 0, .int .i64 0, .int .i64 0] 26)
          have hl2 := hS0.lt
          generalize X1.alloc (.cells #[.slice none 0 0, .slice none 0 0, .int .i64 0, .slice none 0 0, .int .i64 0, .int .i64 0, .int .i64 0, .int .i64 0, .int .i64 0, .int .i64 0, .int .i64 0] 26) = X2 at hN1 hM1 hS2 hB2 ⊢
          refine sched_all (rs := [4]) (by kernel_rfl) (by simp) hS2 (by simp) (fun i hi' => ?_)
          simp only [List.mem_cons, List.not_mem_nil, or_false] at hi'
          subst hi'
          refine okOp_row (drop_get rfl) rfl rfl (g := X1.heap.size) (cells := (msnCells m (.slice a1 m.ways.length (m.ways.length + cap1)) vh vr)) rfl rfl hN1 (by kernel_rfl) rfl hone ?_
          simp only [Act.put, List.setIfInBounds_toArray, List.set_cons_zero, List.set_cons_succ]
          have hP := Has.put (cells := (msnCells m (.slice a1 m.ways.length (m.ways.length + cap1)) vh vr)) hN1
          have hO := Has.keep (cells := (msnCells m (.slice a1 m.ways.length (m.ways.length + cap1)) vh vr)) (C := X1.heap.size) hM1 (by omega)
          have hS3 := Has.keep (cells := (msnCells m (.slice a1 m.ways.length (m.ways.length + cap1)) vh vr)) (C := X1.heap.size) hS2 (by omega)
          have hB3 := Below.setRow hB2 (C := X1.heap.size) (by omega) (msnCells m (.slice a1 m.ways.length (m.ways.length + cap1)) vh vr)
          generalize X2.setRow X1.heap.size (msnCells m (.slice a1 m.ways.length (m.ways.length + cap1)) vh vr) = X3 at hP hO hS3 hB3 ⊢
          refine sched_done (by kernel_rfl) hS3 ?_
          simp only [List.drop_succ_cons, List.drop_zero]
          refine wpListIn_row rfl rfl (g := X0.heap.size) (cells := (msnCells m (.slice a1 m.ways.length (m.ways.length + cap1)) vh vr)) rfl rfl hO (by kernel_rfl) rfl hone ?_
          have hP2 := Has.put (cells := (msnCells m (.slice a1 m.ways.length (m.ways.length + cap1)) vh vr)) hO
          have hP1 := Has.keep (cells := (msnCells m (.slice a1 m.ways.length (m.ways.length + cap1)) vh vr)) (C := X0.heap.size) hP (by omega)
          have hB4 := Below.setRow hB3 (C := X0.heap.size) (by omega) (msnCells m (.slice a1 m.ways.length (m.ways.length + cap1)) vh vr)
          generalize X3.setRow X0.heap.size (msnCells m (.slice a1 m.ways.length (m.ways.length + cap1)) vh vr) = X4 at hP1 hP2 hB4 ⊢
          gi_wp2
          go_meet
          exact ⟨_, _, rfl, rfl, by omega, by omega, by omega, hP1, hP2, hB4⟩
      case rest =>
        obtain ⟨x, y, rfl, rfl, hxy, hx, hy, HX, HY, hC⟩ := hcut
        have H3 := H2'.out.below hC z2
        have B3 := B2.trans (hC.mono B2.size)
        have z3 := H3.lt
        have H3' := Lib.hid H3
        have HX' := Lib.hid HX
        have HY' := Lib.hid HY
        clear c0 c1 c2 c3 c4 c5 c6 c7 c8 c9 c10
        have c7 : wc.cell? ⟨w.heap.size, 7, none⟩ = some (.int .i64 m.idle) := H3.cell (i := 7) rfl
        have c8 : wc.cell? ⟨w.heap.size, 8, none⟩ = some (.int .i64 m.drive) := H3.cell (i := 8) rfl
        have x7 : wc.cell? ⟨x, 7, none⟩ = some (.int .i64 m.idle) := HX.cell (i := 7) rfl
        have x8 : wc.cell? ⟨x, 8, none⟩ = some (.int .i64 m.drive) := HX.cell (i := 8) rfl
        have f7 := cells_free HX 7
        have f8 := cells_free HX 8
        clear H3 HX HY
        obtain ⟨ia, hia⟩ : ∃ ia, IntKind.i64.wrap (2 * m.idle) = ia := ⟨_, rfl⟩
        obtain ⟨ib, hib⟩ : ∃ ib, IntKind.i64.wrap (2 * m.drive) = ib := ⟨_, rfl⟩
        go_upto_region 5 with fail
        go_cut [] from 36 (fun wx => Has wx x (msnCells (withP m ia ib) (.slice a1 m.ways.length (m.ways.length + cap1)) vh vr) 26 ∧ Has wx y (msnCells m (.slice a1 m.ways.length (m.ways.length + cap1)) vh vr) 26 ∧ Below w2.heap.size wc wx)
        case first =>
          go_region
          all_goals (go_wp2_with fail; go_meet)
          exact ⟨((HX'.out.set 7 (.int .i64 ia)).set 8 (.int .i64 ib) : _), (Below.heap_setCell _ ⟨x, 8, none⟩ _ y (by simp; omega)).trans ((Below.heap_setCell _ ⟨x, 7, none⟩ _ y (by simp; omega)).trans HY'.out), Below.drew (((Below.refl _ wc).setCell (p := ⟨x, 7, none⟩) hx _).setCell (p := ⟨x, 8, none⟩) hx _)⟩
        case rest =>
          rename_i wb _
          obtain ⟨HX, HY, hD⟩ := hcut
          have H4 := H3'.out.below hD z2
          have B4 := B3.trans (hD.mono (by omega))
          clear HX' HY' H3' c7 c8 x7 x8 f7 f8 hC
          have x7 : wc.cell? ⟨y, 7, none⟩ = some (.int .i64 m.idle) := HY.cell (i := 7) rfl
          have x8 : wc.cell? ⟨y, 8, none⟩ = some (.int .i64 m.drive) := HY.cell (i := 8) rfl
          have f7 := cells_free HY 7
          have f8 := cells_free HY 8
          have HXX := Lib.hid HX
          have HYY := Lib.hid HY
          have H44 := Lib.hid H4
          clear HX HY H4 hD
          go_upto_region 7 with fail
          have H5 : Has ((wc.setCell ⟨y, 7, none⟩ (.int .i64 0)).setCell ⟨y, 8, none⟩ (.int .i64 0)) w.heap.size (msnCells m (.slice a1 m.ways.length (m.ways.length + cap1)) vh vr) 26 := (Below.heap_setCell _ ⟨y, 8, none⟩ _ _ (by simp; omega)).trans ((Below.heap_setCell _ ⟨y, 7, none⟩ _ _ (by simp; omega)).trans H44.out)
          have HX5 : Has ((wc.setCell ⟨y, 7, none⟩ (.int .i64 0)).setCell ⟨y, 8, none⟩ (.int .i64 0)) x (msnCells (withP m ia ib) (.slice a1 m.ways.length (m.ways.length + cap1)) vh vr) 26 := (Below.heap_setCell _ ⟨y, 8, none⟩ _ _ (by simp; omega)).trans ((Below.heap_setCell _ ⟨y, 7, none⟩ _ _ (by simp; omega)).trans HXX.out)
          have HY5 : Has ((wc.setCell ⟨y, 7, none⟩ (.int .i64 0)).setCell ⟨y, 8, none⟩ (.int .i64 0)) y (msnCells (withP m 0 0) (.slice a1 m.ways.length (m.ways.length + cap1)) vh vr) 26 := ((HYY.out.set 7 (.int .i64 0)).set 8 (.int .i64 0) : _)
          have B5 : Below w.heap.size w ((wc.setCell ⟨y, 7, none⟩ (.int .i64 0)).setCell ⟨y, 8, none⟩ (.int .i64 0)) := (B4.setCell (p := ⟨y, 7, none⟩) (by simp; omega) _).setCell (p := ⟨y, 8, none⟩) (by simp; omega) _
          generalize (wc.setCell ⟨y, 7, none⟩ (.int .i64 0)).setCell ⟨y, 8, none⟩ (.int .i64 0) = w5 at H5 HX5 HY5 B5 ⊢
          clear x7 x8 f7 f8 HXX HYY H44 B4
          have z5 := H5.lt
          have zx5 := HX5.lt
          have zy5 := HY5.lt
          have H5' := Lib.hid H5
          have HX5' := Lib.hid HX5
          have HY5' := Lib.hid HY5
          obtain ⟨c0, c1, c2, c3, c4, c5, c6, c7, c8, c9, c10⟩ := msn_cells (m := m) (vw := .slice a1 m.ways.length (m.ways.length + cap1)) (vh := vh) (vr := vr) H5
          clear H5 HX5 HY5
          have hu1 := fun w1 h h2 => used_all m (.slice a1 m.ways.length (m.ways.length + cap1)) vh vr (.slice al l.length (l.length + capl)) l w1 h h2
          have hR : usedTR m l = if usedOk m l = true then usedT m l else [] := rfl
          have hS : usedER m l = if usedOk m l = true then usedE m l else [] := rfl
          have hC : usedC m l = if usedOk m l = true then 0 else 1 := rfl
          cases hok : usedOk m l
          · rw [hok] at hR hS hC
            simp only [Bool.false_eq_true, if_false] at hR hS hC
            rw [hR, hS, hC] at hu1
            have HU := Lib.hid hu1
            clear hu1 hR hS hC hok
            unfold msnCells at HU
            go_wp2_with fail; refine (HU.out _ ((HM.out.below B5).mono B5.size) ((HL0.out.below B5).mono B5.size)).mono ?_; rintro e w6 ⟨va, vb, rfl, ⟨_, aa, ca, rfl, _⟩, ⟨_, ab, cb, rfl, _⟩, hb6⟩; have B6 := B5.trans (hb6.mono B5.size); have H6 := H5'.out.below hb6 z5; have z6 := H6.lt; have H6' := Lib.hid H6; obtain ⟨c0, c1, c2, c3, c4, c5, c6, c7, c8, c9, c10⟩ := msn_cells (m := m) (vw := .slice a1 m.ways.length (m.ways.length + cap1)) (vh := vh) (vr := vr) H6; clear hb6 H6
            go_wp2
            go_ret
            exact ⟨rfl, B6⟩
          · rw [hok] at hR hS hC
            simp only [if_true] at hR hS hC
            rw [hR, hS, hC] at hu1
            have hvs : validB m = true ∧ stopsB m l = true := by simpa [usedOk] using hok
            have V := (validB_iff m).1 hvs.1
            have n41 := V.n41
            obtain rfl : ia = 2 * m.idle := by rw [← hia]; exact IntWalk.i64_in _ (by have := V.idle; omega) 
            obtain rfl : ib = 2 * m.drive := by rw [← hib]; exact IntWalk.i64_in _ (by have := V.drive; omega)
            have hu2 := fun w1 h h2 => used_all (withP m (2 * m.idle) (2 * m.drive)) (.slice a1 m.ways.length (m.ways.length + cap1)) vh vr (.slice al l.length (l.length + capl)) l w1 h h2
            have hu3 := fun w1 h h2 => used_all (withP m 0 0) (.slice a1 m.ways.length (m.ways.length + cap1)) vh vr (.slice al l.length (l.length + capl)) l w1 h h2
            have o2 : usedOk (withP m (2 * m.idle) (2 * m.drive)) l = true := by
              unfold usedOk
              rw [valid_with V (by have := V.idle; omega) (by have := V.drive; omega), stops_with, hvs.2]; rfl
            have o3 : usedOk (withP m 0 0) l = true := by
              unfold usedOk
              rw [valid_with V (by omega) (by omega), stops_with, hvs.2]; rfl
            have e1 : usedT (withP m (2 * m.idle) (2 * m.drive)) l = usedT m l := by
              show upto (usT (withP m (2 * m.idle) (2 * m.drive)) l) m.ways.length = upto (usT m l) m.ways.length
              rw [funext (usT_with m l (2 * m.idle) (2 * m.drive))]
            have e2 : usedT (withP m 0 0) l = usedT m l := by
              show upto (usT (withP m 0 0) l) m.ways.length = upto (usT m l) m.ways.length
              rw [funext (usT_with m l 0 0)]
            have e3 : usedE (withP m (2 * m.idle) (2 * m.drive)) l = upto (fun k => 2 * usE m l k) m.ways.length := by
              show upto (usE (withP m (2 * m.idle) (2 * m.drive)) l) m.ways.length = _
              rw [funext (usE_twice m l)]
            have e4 : usedE (withP m 0 0) l = upto (fun _ => 0) m.ways.length := by
              show upto (usE (withP m 0 0) l) m.ways.length = _
              rw [funext (usE_none m l)]
            simp only [usedTR, usedER, usedC, o2, if_true, e1, e3] at hu2
            simp only [usedTR, usedER, usedC, o3, if_true, e2, e4] at hu3
            have hub := fun j hj => used_bd V l j hj
            have HV := Lib.hid (And.intro V hub)
            have HU := Lib.hid (And.intro hu1 (And.intro hu2 hu3))
            clear hu1 hu2 hu3 hR hS hC hok hvs V o2 o3 e1 e2 e3 e4 hub hia hib
            generalize usedT m l = lt at *
            unfold msnCells at HU
            go_wp2_with fail; refine (HU.out.1 _ ((HM.out.below B5).mono B5.size) ((HL0.out.below B5).mono B5.size)).mono ?_; rintro e w6 ⟨va, vb, rfl, Ia, Ib, hb6⟩; have B6 := B5.trans (hb6.mono B5.size); have H6 := H5'.out.below hb6 z5; have z6 := H6.lt; have H6' := Lib.hid H6; obtain ⟨c0, c1, c2, c3, c4, c5, c6, c7, c8, c9, c10⟩ := msn_cells (m := m) (vw := .slice a1 m.ways.length (m.ways.length + cap1)) (vh := vh) (vr := vr) H6; have HX6 := HX5'.out.below hb6 zx5; have HY6 := HY5'.out.below hb6 zy5; have Ja := Lib.hid Ia; have Jb := Lib.hid Ib; clear Ia Ib; clear hb6 H6
            have zx6 := HX6.lt
            have zy6 := HY6.lt
            have HX6' := Lib.hid HX6
            have HY6' := Lib.hid HY6
            clear c0 c1 c2 c3 c4 c5 c6 c7 c8 c9 c10 HY6
            obtain ⟨c0, c1, c2, c3, c4, c5, c6, c7, c8, c9, c10⟩ := msn_cells (m := withP m (2 * m.idle) (2 * m.drive)) (vw := .slice a1 m.ways.length (m.ways.length + cap1)) (vh := vh) (vr := vr) HX6
            clear HX6
            obtain ⟨be, oe, cape, rfl, hbe, hce⟩ := ints_at Jb.out (n := m.ways.length) (by simp [usedE, upto]) h0
            go_wp2_with fail
            refine (HU.out.2.1 _ ((HM.out.below B6).mono B6.size) ((HL0.out.below B6).mono B6.size)).mono ?_
            rintro e w7 ⟨vc, vd, rfl, Ic, Id, hb7⟩
            have B7 := B6.trans (hb7.mono B6.size)
            have HY7 := HY6'.out.below hb7 zy6
            have zy7 := HY7.lt
            have Ka := Lib.hid ((Ja.out.below hb7).mono hb7.size)
            have Kc := Lib.hid Ic
            obtain ⟨bd, od, capd, rfl, hbd, hcd⟩ := ints_at Id (n := m.ways.length) (by simp [upto]) h0
            have Qe : ∀ j, j < m.ways.length → w7.cell? ⟨be, oe + j, none⟩ = some (.int .i64 (usE m l j)) := fun j hj => (hb7.cell (p := ⟨be, oe + j, none⟩) hbe).trans (by rw [hce j hj]; unfold usedE; rw [upto_get hj])
            have Qd : ∀ j, j < m.ways.length → w7.cell? ⟨bd, od + j, none⟩ = some (.int .i64 (2 * usE m l j)) := fun j hj => by rw [hcd j hj, upto_get hj]
            have hbe7 : be < w7.heap.size := Nat.lt_of_lt_of_le hbe hb7.size
            have HQ := Lib.hid (And.intro Qe Qd)
            clear c0 c1 c2 c3 c4 c5 c6 c7 c8 c9 c10 hb7 Ic Id hce hcd Qe Qd Ja Jb H6'
            obtain ⟨c0, c1, c2, c3, c4, c5, c6, c7, c8, c9, c10⟩ := msn_cells (m := withP m 0 0) (vw := .slice a1 m.ways.length (m.ways.length + cap1)) (vh := vh) (vr := vr) HY7
            clear HY7
            go_wp2_with fail
            refine (HU.out.2.2 _ ((HM.out.below B7).mono B7.size) ((HL0.out.below B7).mono B7.size)).mono ?_
            rintro e w8 ⟨vf, vg, rfl, If, Ig, hb8⟩
            have B8 := B7.trans (hb8.mono B7.size)
            have La := Lib.hid ((Ka.out.below hb8).mono hb8.size)
            have Lc := Lib.hid ((Kc.out.below hb8).mono hb8.size)
            have Lf := Lib.hid If
            obtain ⟨bg, og, capg, rfl, hbg, hcg⟩ := ints_at Ig (n := m.ways.length) (by simp [upto]) h0
            have Qe : ∀ j, j < m.ways.length → w8.cell? ⟨be, oe + j, none⟩ = some (.int .i64 (usE m l j)) := fun j hj => (hb8.cell (p := ⟨be, oe + j, none⟩) hbe7).trans (HQ.out.1 j hj)
            have Qd : ∀ j, j < m.ways.length → w8.cell? ⟨bd, od + j, none⟩ = some (.int .i64 (2 * usE m l j)) := fun j hj => (hb8.cell (p := ⟨bd, od + j, none⟩) hbd).trans (HQ.out.2 j hj)
            have Qg : ∀ j, j < m.ways.length → w8.cell? ⟨bg, og + j, none⟩ = some (.int .i64 0) := fun j hj => by rw [hcg j hj, upto_get hj]
            have hbe8 : be < w8.heap.size := Nat.lt_of_lt_of_le hbe7 hb8.size
            have hbd8 : bd < w8.heap.size := Nat.lt_of_lt_of_le hbd hb8.size
            have HR := Lib.hid (And.intro Qe (And.intro Qd Qg))
            have hla : ∃ a cap, va = .slice a lt.length (lt.length + cap) := by obtain ⟨_, a, cap, e, _⟩ := La.out; exact ⟨a, cap, e⟩
            clear c0 c1 c2 c3 c4 c5 c6 c7 c8 c9 c10 hb8 If Ig hcg Qe Qd Qg Ka Kc HQ HX6' HY6' HX5' HY5' H5'
            have B88 := Lib.hid B8
            go_wp2
            go_loopw [5, 92] (fun s i wr => ∃ j : Nat, j ≤ m.ways.length ∧ i = .int .i64 (j : Int) ∧ s = .bool true ∧ Below w8.heap.size w8 wr) (fun _ i _ => m.ways.length - (intOf i).toNat)
            case atStart => exact ⟨0, by omega, rfl, rfl, Below.refl _ _⟩
            case round =>
              obtain ⟨j, hj, rfl, rfl, hB⟩ := hrel
              have hzB := hB.size
              by_cases hlt : j < m.ways.length
              · have l1 := Low.fact ((hB.cell (p := ⟨be, oe + j, none⟩) hbe8).trans (HR.out.1 j hlt))
                have l2 := Low.fact ((hB.cell (p := ⟨bd, od + j, none⟩) hbd8).trans (HR.out.2.1 j hlt))
                have l3 := Low.fact ((hB.cell (p := ⟨bg, og + j, none⟩) hbg).trans (HR.out.2.2 j hlt))
                have hub := HV.out.2 j hlt
                generalize usE m l j = s1 at *
                have m1 : IntKind.i64.wrap (2 * s1) = 2 * s1 := IntWalk.i64_in _ (by omega)
                have dj : decide ((j : Int) < (m.ways.length : Int)) = true := by simp; omega
                have jl : (j : Int) < m.ways.length := by omega
                have j0 : (0 : Int) ≤ j := by omega
                have hBB := Lib.hid hB
                clear hub hB
                go_wp2
                (refine wp_region_low (by kernel_rfl) (by kernel_rfl) ?_; (iterate 21 (apply quiet_want; (case hw => rfl); (case hval => (intro w1 hw1; have hcx := Low.cells hw1; simp only [Oper.quietAt]; go_simp; first | done | (first | fail) | rfl | exact ⟨rfl, rfl⟩)); simp only [Act.put, List.setIfInBounds_toArray, List.set_cons_zero, List.set_cons_succ])); refine wpQuiet_nil ?_; intro w2 hw2)
                have hBf := Lib.hid (hBB.out.trans (hw2.out.mono hzB))
                clear hw2 l1 l2 l3 m1
                go_wp2
                go_roundw
                case rel => exact ⟨j + 1, by omega, by go_num, rfl, hBf.out⟩
                case measure => simp [intOf]; omega
              · obtain rfl : j = m.ways.length := by omega
                have dj : decide ((m.ways.length : Int) < (m.ways.length : Int)) = false := by simp
                have B9 := Lib.hid (B88.out.trans (hB.mono B88.out.size))
                have Ma := Lib.hid ((La.out.below hB).mono hB.size)
                have Mc := Lib.hid ((Lc.out.below hB).mono hB.size)
                have Mf := Lib.hid ((Lf.out.below hB).mono hB.size)
                have hdl : decide (lt = lt) = true := by simp
                clear hB
                go_wp2_with fail
                refine (same_any _ _ lt lt _ Mc.out Ma.out).mono ?_
                rintro e wa ⟨rfl, hb1⟩
                have Na := Lib.hid ((Ma.out.below hb1).mono hb1.size)
                have Nf := Lib.hid ((Mf.out.below hb1).mono hb1.size)
                have BA := Lib.hid (B9.out.trans (hb1.mono B9.out.size))
                clear hb1
                go_wp2_with fail
                refine (same_any _ _ lt lt _ Nf.out Na.out).mono ?_
                rintro e wb ⟨rfl, hb1⟩
                have BB := Lib.hid (BA.out.trans (hb1.mono BA.out.size))
                clear hb1
                go_wp2
                go_ret
                exact ⟨rfl, BB.out⟩
    · have d2 : decide (m.drive > 500) = true := by rw [decide_eq_true_eq]; omega
      go_wp2
      go_ret
      exact ⟨rfl, B2⟩
  · have d1 : decide (m.idle > 500) = true := by rw [decide_eq_true_eq]; omega
    go_wp2
    go_ret
    exact ⟨rfl, B2⟩

set_option maxRecDepth 100000 in
theorem lifted (os : Os) (started : os.Started) (H : Type) (enc : TypeId × Value → H) :
    ReturnsInHanded {} Try.checked os 14 .any (Rows.powerTwiceSpec.pre6 enc Try.prog Try.f14 Rows.powerTwiceRow.domain false) (Rows.powerTwiceSpec.post enc Try.prog Try.f14 false true false false) := by
  refine returnsInHanded_of_change_sized (C := Try.checked) own started (by kernel_rfl) Try.func14
    (ChangeSpec.witness6 (enc := enc) (C := Try.checked) false ⟨#[], #[.agg #[.slice none 0 0, .slice none 0 0, .int .i64 0, .slice none 0 0, .int .i64 0, .int .i64 0, .int .i64 0, .int .i64 0, .int .i64 0, .int .i64 0, .int .i64 0], .slice none 0 0], []⟩ 8 (by kernel_rfl) (by kernel_rfl) (by kernel_rfl) (by kernel_rfl)) ?_
  intro W base args ds gs before hval0 hW hcnd hsz0 _
  have hval : ∀ (j : Nat) t v, Try.f14.params[j]? = some t → args[j]? = some v → Value.okWide Try.prog W .any base t v := hval0
  have hW' := hW
  obtain ⟨p, q, hA0, hV, rfl, hfz, hnd⟩ := hW
  have hA : DataW.TrodAll enc Try.prog W 0 (fun _ => true) true Try.f14.params.toList args.toList ds p := hA0
  have hsz : (DataW.weightsEach Try.prog (Try.f14.params.toList ++ Rows.powerTwiceSpec.plain.varTypes Try.prog) (ds ++ gs)).all (· ≤ reachBytes) = true := hsz0
  rw [Try.params14] at hA hval hsz
  obtain ⟨v0, vs0, d0, ds0, p0, q0, hargs, rfl, rfl, h0, r0⟩ := trodAll_cons hA
  obtain ⟨v1, vs1, d1, ds1, p1, q1, rfl, rfl, rfl, h1, r1⟩ := trodAll_cons r0
  obtain ⟨rfl, rfl, rfl⟩ := trodAll_nil r1
  obtain rfl : args = #[v0, v1] := by cases args; simp_all
  obtain ⟨rfl, rfl⟩ := trodVars_none hV
  have k0 := h0
  have lt0 : ∀ x ∈ p0, x.block < W.heap.size := by obtain ⟨m, hm⟩ := k0; exact DataW.trod_lt m _ _ _ hm
  have z0 : ∀ n ∈ d0.weights Try.prog 26, n ≤ reachBytes := fun n hn => by have := List.all_eq_true.1 hsz n (DataW.weights_mem_each (j := 0) (t := 26) (d := d0) rfl rfl n hn); simpa using this
  obtain ⟨a0, vw0, vh0, vr0, rfl, w0⟩ := open_msn (hval 0 26 v0 rfl rfl) h0 z0
  have k1 := h1
  have lt1 : ∀ x ∈ p1, x.block < W.heap.size := by obtain ⟨m, hm⟩ := k1; exact DataW.trod_lt m _ _ _ hm
  have z1 : ∀ n ∈ d1.weights Try.prog 32, n ≤ reachBytes := fun n hn => by have := List.all_eq_true.1 hsz n (DataW.weights_mem_each (j := 1) (t := 32) (d := d1) rfl rfl n hn); simpa using this
  obtain ⟨a1, w1⟩ := open_ints_arg (hval 1 32 v1 rfl rfl) h1 z1
  clear hA0 hval0
  refine (walk W a0 vw0 vh0 vr0 v1 a1 w0 w1).mono fun e W' ⟨he, bel⟩ => ?_
  subst he
  exact ⟨_, rfl, _, _, _, [], _, [], hW', trodAll_mk1 (shut_bool Try.underlying4 _), (trodAll_cons_mk (Below.trod laidOut (by kernel_rfl) (of_decide_eq_true (by kernel_rfl)) k0 bel lt0) (trodAll_cons_mk (Below.trod laidOut (by kernel_rfl) (of_decide_eq_true (by kernel_rfl)) k1 bel lt1) trodAll_mk0)), rfl, bel.frame _, fun h => by cases h⟩

theorem over : Rows.powerTwiceRow.holds Try.pinned (OpenSpec.ofChange Rows.powerTwiceSpec) :=
  OpenClaim.holds_of_wide 14 Try.f14 rfl rfl rfl rfl rfl rfl rfl ⟨rfl, rfl, rfl, rfl, rfl⟩ rfl rfl rfl rfl rfl (by kernel_rfl) Try.func14 (by kernel_rfl)
    (of_decide_eq_true (by kernel_rfl)) (by unfold Func.isWrapper; first | (rw [if_pos (by decide +kernel)]; kernel_rfl) | (rw [if_neg (by decide +kernel)]; exact ⟨rfl, rfl⟩))
    (fun os started H enc _ => lifted os started H enc)

/-- the statement -/
theorem proved : Rows.PowerTwiceSaid := over
#print axioms proved
end Go.Proofs.Ytjnjmpakmgmdbaa.powerTwice
