/- mission.up, mission.between; the reference's RootUp, Length, Lasts, Growth. -/
import Derived.Test.YtoekcefhphcjjaaGreatBin06
import Derived.Test.YtoekcefhphcjjaaGreatBin03
import Derived.Test.YtoekcefhphcjjaaGreatBin05
namespace Go.Proofs.YtoekcefhphcjjaaGreat
open Go.RowKit
attribute [local irreducible] wpQuiet

/-- the cells of a boxed mission -/
theorem msn_cells {W : World} {B : Nat} {m : Msn} {vw vh vr : Value} {T : TypeId} (H : Has W B (msnCells m vw vh vr) T) : W.cell? ⟨B, 0, none⟩ = some vw ∧ W.cell? ⟨B, 1, none⟩ = some vh ∧ W.cell? ⟨B, 2, none⟩ = some (.int .i64 m.start) ∧ W.cell? ⟨B, 3, none⟩ = some vr ∧ W.cell? ⟨B, 4, none⟩ = some (.int .i64 m.speed) ∧ W.cell? ⟨B, 5, none⟩ = some (.int .i64 m.part) ∧ W.cell? ⟨B, 6, none⟩ = some (.int .i64 m.flow) ∧ W.cell? ⟨B, 7, none⟩ = some (.int .i64 m.idle) ∧ W.cell? ⟨B, 8, none⟩ = some (.int .i64 m.drive) ∧ W.cell? ⟨B, 9, none⟩ = some (.int .i64 m.battery) ∧ W.cell? ⟨B, 10, none⟩ = some (.int .i64 m.deadline) :=
  ⟨H.cell (i := 0) rfl, H.cell (i := 1) rfl, H.cell (i := 2) rfl, H.cell (i := 3) rfl, H.cell (i := 4) rfl, H.cell (i := 5) rfl, H.cell (i := 6) rfl, H.cell (i := 7) rfl, H.cell (i := 8) rfl, H.cell (i := 9) rfl, H.cell (i := 10) rfl⟩
theorem msn_low {W : World} {B : Nat} {m : Msn} {vw vh vr : Value} {T : TypeId} (H : Has W B (msnCells m vw vh vr) T) : (∀ w1, Low W w1 → w1.cell? ⟨B, 0, none⟩ = some vw) ∧ (∀ w1, Low W w1 → w1.cell? ⟨B, 1, none⟩ = some vh) ∧ (∀ w1, Low W w1 → w1.cell? ⟨B, 2, none⟩ = some (.int .i64 m.start)) ∧ (∀ w1, Low W w1 → w1.cell? ⟨B, 3, none⟩ = some vr) ∧ (∀ w1, Low W w1 → w1.cell? ⟨B, 4, none⟩ = some (.int .i64 m.speed)) ∧ (∀ w1, Low W w1 → w1.cell? ⟨B, 5, none⟩ = some (.int .i64 m.part)) ∧ (∀ w1, Low W w1 → w1.cell? ⟨B, 6, none⟩ = some (.int .i64 m.flow)) ∧ (∀ w1, Low W w1 → w1.cell? ⟨B, 7, none⟩ = some (.int .i64 m.idle)) ∧ (∀ w1, Low W w1 → w1.cell? ⟨B, 8, none⟩ = some (.int .i64 m.drive)) ∧ (∀ w1, Low W w1 → w1.cell? ⟨B, 9, none⟩ = some (.int .i64 m.battery)) ∧ (∀ w1, Low W w1 → w1.cell? ⟨B, 10, none⟩ = some (.int .i64 m.deadline)) :=
  ⟨Low.fact (H.cell (i := 0) rfl), Low.fact (H.cell (i := 1) rfl), Low.fact (H.cell (i := 2) rfl), Low.fact (H.cell (i := 3) rfl), Low.fact (H.cell (i := 4) rfl), Low.fact (H.cell (i := 5) rfl), Low.fact (H.cell (i := 6) rfl), Low.fact (H.cell (i := 7) rfl), Low.fact (H.cell (i := 8) rfl), Low.fact (H.cell (i := 9) rfl), Low.fact (H.cell (i := 10) rfl)⟩

theorem up31_any (a b : Int) (w : World) (ha : 0 ≤ a) (ha' : a ≤ 1000000000000) (hb : 1 ≤ b) (hb' : b ≤ 1000000000000) :
    Calls Tryz.prog 118 #[.int .i64 a, .int .i64 b] w fun e w' => e = .returned (.int .i64 (cdiv a b)) ∧ Below w.heap.size w w' := by
  have e : ceilV a b = cdiv a b := by
    have : badQ a b = false := by simp [badQ, wideB_mk (n := a) (by omega) ha', wideB_mk (n := b) (by omega) hb']; omega
    simp [ceilV, this]
  rw [← e]; clear e
  go_enter Tryz.func118, Tryz.ntmps118
  go_wp2_with (go_at_call 142; refine (ceil_any _ _ _).mono ?_; rintro e w1 ⟨rfl, hb1⟩; have hz1 := hb1.size; try simp at hz1)
  go_ret
  exact ⟨rfl, by repeat (first | exact Below.refl _ _ | assumption | apply Below.drew | refine Below.setCell ?_ (by first | omega | (simp; done) | (simp; omega)) _ | refine Below.alloc ?_ (by first | omega | (simp; done) | (simp; omega)) _ | refine Below.call (by assumption) ?_ (by first | omega | (simp; done) | (simp; omega)))⟩

theorem rootUp_any (s : Int) (w : World) (h1 : 0 ≤ s) (h2 : s ≤ 1000000000000000000) :
    Calls Tryz.prog 112 #[.int .i64 s] w fun e w' => e = .returned (.int .i64 (rootUp s)) ∧ w = w' := by
  have hi := isqrt_le (m := s.toNat) (n := 1000000000) (by omega)
  have hs := (isqrt_spec s.toNat).1
  have hm : IntKind.i64.wrap ((isqrt s.toNat : Int) * isqrt s.toNat) = (isqrt s.toNat : Int) * isqrt s.toNat := IntWalk.i64_in _ (by
    have : (isqrt s.toNat : Int) * isqrt s.toNat = ((isqrt s.toNat * isqrt s.toNat : Nat) : Int) := by simp
    omega)
  clear hs
  unfold rootUp
  by_cases hlt : (isqrt s.toNat : Int) * isqrt s.toNat < s
  · rw [if_pos hlt]
    go_enter Tryz.func112, Tryz.ntmps112
    go_wp2_with (go_at_call 140; refine (root0_any _ _ h1 h2).mono ?_; rintro e w' ⟨rfl, rfl⟩)
    go_ret
    exact ⟨rfl, rfl⟩
  · rw [if_neg hlt]
    have d : decide ((isqrt s.toNat : Int) * isqrt s.toNat < s) = false := by simpa using hlt
    clear hlt
    go_enter Tryz.func112, Tryz.ntmps112
    go_wp2_with (go_at_call 140; refine (root0_any _ _ h1 h2).mono ?_; rintro e w' ⟨rfl, rfl⟩)
    go_ret
    exact ⟨rfl, rfl⟩

theorem length_any (ax ay bx by' : Int) (w : World) (a1 : -300000 ≤ ax) (a2 : ax ≤ 300000) (a3 : -300000 ≤ ay) (a4 : ay ≤ 300000) (b1 : -300000 ≤ bx) (b2 : bx ≤ 300000) (b3 : -300000 ≤ by') (b4 : by' ≤ 300000) :
    Calls Tryz.prog 56 #[.agg #[.int .i64 ax, .int .i64 ay], .agg #[.int .i64 bx, .int .i64 by']] w fun e w' => e = .returned (.int .i64 (distV ax ay bx by')) ∧ Below w.heap.size w w' := by
  have h1 := sq_bd (a := ax - bx) (m := 600000) (by omega) (by omega)
  have h2 := sq_bd (a := ay - by') (m := 600000) (by omega) (by omega)
  have p' : IntKind.i64.wrap ((ax - bx) * (ax - bx)) = (ax - bx) * (ax - bx) := IntWalk.i64_in _ (by omega)
  have q' : IntKind.i64.wrap ((ay - by') * (ay - by')) = (ay - by') * (ay - by') := IntWalk.i64_in _ (by omega)
  have r' : IntKind.i64.wrap ((ax - bx) * (ax - bx) + (ay - by') * (ay - by')) = (ax - bx) * (ax - bx) + (ay - by') * (ay - by') := IntWalk.i64_in _ (by omega)
  have s1 : 0 ≤ (ax - bx) * (ax - bx) + (ay - by') * (ay - by') := by omega
  have s2 : (ax - bx) * (ax - bx) + (ay - by') * (ay - by') ≤ 1000000000000000000 := by omega
  clear h1 h2
  unfold distV
  go_enter Tryz.func56, Tryz.ntmps56
  go_wp2_with (go_at_call 112; refine (rootUp_any _ _ s1 s2).mono ?_; rintro e w' ⟨rfl, rfl⟩)
  go_ret
  exact ⟨rfl, by repeat (first | exact Below.refl _ _ | assumption | apply Below.drew | refine Below.setCell ?_ (by first | omega | (simp; done) | (simp; omega)) _ | refine Below.alloc ?_ (by first | omega | (simp; done) | (simp; omega)) _ | refine Below.call (by assumption) ?_ (by first | omega | (simp; done) | (simp; omega)))⟩

theorem rlasts_any (m : Msn) (vw vh vr : Value) (n : Int) (w : World) (h1 : 0 ≤ n) (h2 : n ≤ 900000) (h3 : 1 ≤ m.speed) (h4 : m.speed ≤ 20000) :
    Calls Tryz.prog 111 #[.agg (msnCells m vw vh vr), .int .i64 n] w fun e w' => e = .returned (.int .i64 (lastsV m.speed n)) ∧ Below w.heap.size w w' := by
  have e : lastsV m.speed n = cdiv (n * 100) m.speed := by rw [lastsV, Int.mul_comm]
  have p : IntKind.i64.wrap (n * 100) = n * 100 := IntWalk.i64_in _ (by omega)
  rw [e]; clear e
  unfold msnCells
  go_enter Tryz.func111, Tryz.ntmps111
  go_wp2_with (go_at_call 110; refine (rup_any _ _ _ (by omega) (by omega) (by omega) (by omega) (by omega)).mono ?_; rintro e w' ⟨rfl, rfl⟩)
  go_ret
  exact ⟨rfl, by repeat (first | exact Below.refl _ _ | assumption | apply Below.drew | refine Below.setCell ?_ (by first | omega | (simp; done) | (simp; omega)) _ | refine Below.alloc ?_ (by first | omega | (simp; done) | (simp; omega)) _ | refine Below.call (by assumption) ?_ (by first | omega | (simp; done) | (simp; omega)))⟩

theorem rgrowth_any (m : Msn) (vw vh vr : Value) (n : Int) (w : World) (h1 : 0 ≤ n) (h2 : n ≤ 900000) (h3 : 1 ≤ m.speed) (h4 : m.speed ≤ 20000) (p1 : 0 ≤ m.part) (p2 : m.part ≤ 500) (f1 : 0 ≤ m.flow) (f2 : m.flow ≤ 5000) :
    Calls Tryz.prog 55 #[.agg (msnCells m vw vh vr), .int .i64 n] w fun e w' => e = .returned (.int .i64 (growthV m.speed m.part m.flow n)) ∧ Below w.heap.size w w' := by
  obtain ⟨g1, g2, g3, g4, g5, g6⟩ := growth_bd h1 h2 h3 p1 p2 f1 f2
  have p : IntKind.i64.wrap (n * m.part) = n * m.part := IntWalk.i64_in _ (by omega)
  have q : IntKind.i64.wrap (lastsV m.speed n * m.flow) = lastsV m.speed n * m.flow := IntWalk.i64_in _ (by omega)
  have c1 := cdiv_bd (a := n * m.part) (b := 1000) g1 (by omega)
  have c2 := cdiv_bd (a := lastsV m.speed n * m.flow) (b := 100) g3 (by omega)
  have r : IntKind.i64.wrap (cdiv (n * m.part) 1000 + cdiv (lastsV m.speed n * m.flow) 100) = cdiv (n * m.part) 1000 + cdiv (lastsV m.speed n * m.flow) 100 := IntWalk.i64_in _ (by omega)
  clear c1 c2
  unfold growthV
  obtain ⟨c0, c1, c2, c3, c4, c5, c6, c7, c8, c9, c10⟩ := msn_low (Has.new w (msnCells m vw vh vr) 28)
  have hl : ∀ w1, Calls Tryz.prog 111 #[.agg (msnCells m vw vh vr), .int .i64 n] w1 fun e w' => e = .returned (.int .i64 (lastsV m.speed n)) ∧ Below w1.heap.size w1 w' := fun w1 => rlasts_any m vw vh vr n w1 h1 h2 h3 h4
  unfold msnCells at *
  go_enter Tryz.func55, Tryz.ntmps55
  go_wp2_with (go_at_call 110; refine (rup_any _ _ _ (by omega) (by omega) (by omega) (by omega) (by omega)).mono ?_; rintro e w' ⟨rfl, rfl⟩)
  (refine wp_region_low (by kernel_rfl) (by kernel_rfl) ?_; (iterate 10 (apply quiet_want; (case hw => rfl); (case hval => (intro w1 hw1; have hcx := Low.cells hw1; simp only [Oper.quietAt]; go_simp; first | done | (first | (go_at_call 111; exact Low.calls hw1 (hl _)) | (go_at_call 110; exact Low.calls_same hw1 (rup_any _ _ _ (by omega) (by omega) (by omega) (by omega) (by omega)))) | rfl | exact ⟨rfl, rfl⟩)); simp only [Act.put, List.setIfInBounds_toArray, List.set_cons_zero, List.set_cons_succ])); refine wpQuiet_nil ?_; intro w2 hw2)
  go_wp2
  go_ret
  exact ⟨rfl, by repeat (first | exact Below.refl _ _ | assumption | apply Below.drew | refine Below.setCell ?_ (by first | omega | (simp; done) | (simp; omega)) _ | refine Below.alloc ?_ (by first | omega | (simp; done) | (simp; omega)) _ | refine Below.call (by assumption) ?_ (by first | omega | (simp; done) | (simp; omega)))⟩
end Go.Proofs.YtoekcefhphcjjaaGreat
