/- mission.between -/
import Derived.BigFrameIn
import Derived.Test.YtoekcefhphcjjaaBin07
import Derived.Test.YtoekcefhphcjjaaBin06
namespace Go.Proofs.Ytoekcefhphcjjaa
open Go.RowKit
attribute [local irreducible] wpQuiet

/-- the leg between two places -/
def legVal (m : Msn) (ax ay bx by' : Int) : Value := .agg #[.int .i64 (distV ax ay bx by'), .int .i64 (lastsV m.speed (distV ax ay bx by')), .int .i64 (growthV m.speed m.part m.flow (distV ax ay bx by'))]

theorem between_same (m : Msn) (vw vh vr : Value) (ax ay : Int) (w : World) :
    Calls Try.prog 22 #[.agg (msnCells m vw vh vr), .agg #[.int .i64 ax, .int .i64 ay], .agg #[.int .i64 ax, .int .i64 ay]] w fun e w' => e = .returned (legVal m ax ay ax ay) ∧ Below w.heap.size w w' := by
  unfold legVal
  rw [dist_self, lasts_zero, growth_zero]
  unfold msnCells
  go_enter Try.func22, Try.ntmps22
  go_wp2
  refine bodyPost_ret (v := .agg #[.int .i64 0, .int .i64 0, .int .i64 0]) (by simp [results, Try.f22, go_sem]) rfl ⟨rfl, by repeat (first | exact Below.refl _ _ | assumption | apply Below.drew | refine Below.setCell ?_ (by first | omega | (simp; done) | (simp; omega)) _ | refine Below.alloc ?_ (by first | omega | (simp; done) | (simp; omega)) _ | refine Below.call (by assumption) ?_ (by first | omega | (simp; done) | (simp; omega)))⟩

theorem between_a1 (m : Msn) (vw vh vr : Value) (ax ay bx by' : Int) (w : World) (hm : legOk m) (ha : nearP ax ay) (hb : nearP bx by') (d0 : (ax == bx) = false) (hlt : (isqrt ((ax - bx) * (ax - bx) + (ay - by') * (ay - by')).toNat : Int) * isqrt ((ax - bx) * (ax - bx) + (ay - by') * (ay - by')).toNat < ((ax - bx) * (ax - bx) + (ay - by') * (ay - by'))) :
    Calls Try.prog 22 #[.agg (msnCells m vw vh vr), .agg #[.int .i64 ax, .int .i64 ay], .agg #[.int .i64 bx, .int .i64 by']] w fun e w' => e = .returned (legVal m ax ay bx by') ∧ Below w.heap.size w w' := by
  obtain ⟨m1, m2, m3, m4, m5, m6⟩ := hm
  obtain ⟨a1, a2, a3, a4⟩ := ha
  obtain ⟨b1, b2, b3, b4⟩ := hb
  have h1 := sq_bd (a := ax - bx) (m := 600000) (by omega) (by omega)
  have h2 := sq_bd (a := ay - by') (m := 600000) (by omega) (by omega)
  have p' : IntKind.i64.wrap ((ax - bx) * (ax - bx)) = (ax - bx) * (ax - bx) := IntWalk.i64_in _ (by omega)
  have q' : IntKind.i64.wrap ((ay - by') * (ay - by')) = (ay - by') * (ay - by') := IntWalk.i64_in _ (by omega)
  have r' : IntKind.i64.wrap ((ax - bx) * (ax - bx) + (ay - by') * (ay - by')) = (ax - bx) * (ax - bx) + (ay - by') * (ay - by') := IntWalk.i64_in _ (by omega)
  have db := dist_bd a1 a2 a3 a4 b1 b2 b3 b4
  obtain ⟨s, hs⟩ : ∃ s, (ax - bx) * (ax - bx) + (ay - by') * (ay - by') = s := ⟨_, rfl⟩
  rw [hs] at hlt
  obtain ⟨n, hn⟩ : ∃ n, distV ax ay bx by' = n := ⟨_, rfl⟩
  have hv : rootV s = isqrt s.toNat := by simp [rootV, badN]; intro h; omega
  have hi := isqrt_le (m := s.toNat) (n := 1000000) (by omega)
  have hq := (isqrt_spec s.toNat).1
  have hmm : IntKind.i64.wrap ((isqrt s.toNat : Int) * isqrt s.toNat) = (isqrt s.toNat : Int) * isqrt s.toNat := IntWalk.i64_in _ (by
    have : (isqrt s.toNat : Int) * isqrt s.toNat = ((isqrt s.toNat * isqrt s.toNat : Nat) : Int) := by simp
    omega)
  have hroot : rootUp s = n := by rw [← hs, ← hn]; rfl
  unfold legVal
  rw [hn]
  rw [hn] at db
  rw [hs] at r' db
  obtain ⟨_, _, n1, n2⟩ := db
  obtain ⟨g1, g2, g3, g4, g5, g6⟩ := growth_bd (speed := m.speed) (part := m.part) (flow := m.flow) n1 n2 m1 m3 m4 m5 m6
  have l := lasts_bd n1 n2 m1
  have x1 : IntKind.i64.wrap (n * m.part) = n * m.part := IntWalk.i64_in _ (by omega)
  have x2 : IntKind.i64.wrap (lastsV m.speed n * m.flow) = lastsV m.speed n * m.flow := IntWalk.i64_in _ (by omega)
  have x3 : IntKind.i64.wrap (100 * n) = 100 * n := IntWalk.i64_in _ (by omega)
  have c1 := cdiv_bd (a := n * m.part) (b := 1000) g1 (by omega)
  have c2 := cdiv_bd (a := lastsV m.speed n * m.flow) (b := 100) g3 (by omega)
  have x4 : IntKind.i64.wrap (cdiv (n * m.part) 1000 + cdiv (lastsV m.speed n * m.flow) 100) = cdiv (n * m.part) 1000 + cdiv (lastsV m.speed n * m.flow) 100 := IntWalk.i64_in _ (by omega)
  have hl : ∀ w1, Calls Try.prog 53 #[.int .i64 (100 * n), .int .i64 m.speed] w1 fun e w' => e = .returned (.int .i64 (lastsV m.speed n)) ∧ Below w1.heap.size w1 w' := fun w1 => up31_any _ _ w1 (by omega) (by omega) (by omega) (by omega)
  have hu1 : ∀ w1, Calls Try.prog 53 #[.int .i64 (n * m.part), .int .i64 1000] w1 fun e w' => e = .returned (.int .i64 (cdiv (n * m.part) 1000)) ∧ Below w1.heap.size w1 w' := fun w1 => up31_any _ _ w1 (by omega) (by omega) (by omega) (by omega)
  have hu2 : ∀ w1, Calls Try.prog 53 #[.int .i64 (lastsV m.speed n * m.flow), .int .i64 100] w1 fun e w' => e = .returned (.int .i64 (cdiv (lastsV m.speed n * m.flow) 100)) ∧ Below w1.heap.size w1 w' := fun w1 => up31_any _ _ w1 (by omega) (by omega) (by omega) (by omega)
  unfold rootUp at hroot
  clear h1 h2 hq hi c1 c2
  unfold growthV
  obtain ⟨k0, hk0⟩ : ∃ k0 : Int, (isqrt s.toNat : Int) = k0 := ⟨_, rfl⟩
  rw [hk0] at hv hmm hroot hlt
  clear hk0
  clear g5 g6 hn
  unfold msnCells
  rw [if_pos hlt] at hroot
  go_enter Try.func22, Try.ntmps22
  go_wp2_with (first | (go_at_call 52; refine (root_any _ _).mono ?_; rintro e w5 ⟨rfl, hb5⟩; obtain ⟨hc5, hf5⟩ := bcell hb5; have hz5 := hb5.size; try simp at hz5) | (go_at_call 53; refine (hl _).mono ?_; rintro e w6 ⟨rfl, hb6⟩; obtain ⟨hc6, hf6⟩ := bcell hb6; have hz6 := hb6.size; try simp at hz6))
  have e5 : w6.cell? ⟨w.heap.size, 5, none⟩ = some (.int .i64 m.part) := by rw [hc6 _ _ (by omega), hc5 _ _ (by simp; omega)]; simp [go_sem]
  have e6 : w6.cell? ⟨w.heap.size, 6, none⟩ = some (.int .i64 m.flow) := by rw [hc6 _ _ (by omega), hc5 _ _ (by simp; omega)]; simp [go_sem]
  have l5 := Low.fact e5
  have l6 := Low.fact e6
  have z6 : w.heap.size + 1 + 1 + 1 + 1 ≤ w6.heap.size := by omega
  have E6 := hb5.trans (hb6.mono (by simp; omega))
  clear e5 e6 hc5 hc6 hf5 hf6
  (refine (wpIn_wide (n := 9)).1 ?_; refine wpIn_region_low_tail (lets_wide _) 14 (by kernel_rfl) (by kernel_rfl) (by kernel_rfl) ?_; simp only [List.take_succ_cons, List.take_zero, List.drop_succ_cons, List.drop_zero]; (iterate 14 (apply quiet_want; (case hw => rfl); (case hval => (intro w1 hw1; have hcx := Low.cells hw1; simp only [Oper.quietAt]; go_simp; first | done | (first | (go_at_call 53; with_reducible exact Low.calls hw1 (hu1 _)) | (go_at_call 53; with_reducible exact Low.calls hw1 (hu2 _))) | rfl | exact ⟨rfl, rfl⟩)); simp only [Act.put, List.setIfInBounds_toArray, List.set_cons_zero, List.set_cons_succ])); refine wpQuiet_nil ?_; intro w2 hw2)
  have B := E6.trans (hw2.mono (by simp; omega))
  obtain ⟨hc7, hf7⟩ := bcell B
  gi_wp2
  go_wp2
  refine bodyPost_ret (v := .agg #[.int .i64 n, .int .i64 (lastsV m.speed n), .int .i64 (cdiv (n * m.part) 1000 + cdiv (lastsV m.speed n * m.flow) 100)]) ?_ rfl ⟨rfl, ?_⟩
  · simp [results, Try.f22, go_sem, hc7]
  · refine Below.setCell (Below.setCell (Below.setCell ?_ (by simp; omega) _) (by simp; omega) _) (by simp; omega) _
    refine Below.trans ?_ (B.mono (by simp; omega))
    repeat (first | exact Below.refl _ _ | assumption | apply Below.drew | refine Below.setCell ?_ (by first | omega | (simp; done) | (simp; omega)) _ | refine Below.alloc ?_ (by first | omega | (simp; done) | (simp; omega)) _ | refine Below.call (by assumption) ?_ (by first | omega | (simp; done) | (simp; omega)))

set_option maxHeartbeats 400000 in
theorem between_a2 (m : Msn) (vw vh vr : Value) (ax ay bx by' : Int) (w : World) (hm : legOk m) (ha : nearP ax ay) (hb : nearP bx by') (d0 : (ax == bx) = false) (hlt : ¬ (isqrt ((ax - bx) * (ax - bx) + (ay - by') * (ay - by')).toNat : Int) * isqrt ((ax - bx) * (ax - bx) + (ay - by') * (ay - by')).toNat < ((ax - bx) * (ax - bx) + (ay - by') * (ay - by'))) :
    Calls Try.prog 22 #[.agg (msnCells m vw vh vr), .agg #[.int .i64 ax, .int .i64 ay], .agg #[.int .i64 bx, .int .i64 by']] w fun e w' => e = .returned (legVal m ax ay bx by') ∧ Below w.heap.size w w' := by
  obtain ⟨m1, m2, m3, m4, m5, m6⟩ := hm
  obtain ⟨a1, a2, a3, a4⟩ := ha
  obtain ⟨b1, b2, b3, b4⟩ := hb
  have h1 := sq_bd (a := ax - bx) (m := 600000) (by omega) (by omega)
  have h2 := sq_bd (a := ay - by') (m := 600000) (by omega) (by omega)
  have p' : IntKind.i64.wrap ((ax - bx) * (ax - bx)) = (ax - bx) * (ax - bx) := IntWalk.i64_in _ (by omega)
  have q' : IntKind.i64.wrap ((ay - by') * (ay - by')) = (ay - by') * (ay - by') := IntWalk.i64_in _ (by omega)
  have r' : IntKind.i64.wrap ((ax - bx) * (ax - bx) + (ay - by') * (ay - by')) = (ax - bx) * (ax - bx) + (ay - by') * (ay - by') := IntWalk.i64_in _ (by omega)
  have db := dist_bd a1 a2 a3 a4 b1 b2 b3 b4
  obtain ⟨s, hs⟩ : ∃ s, (ax - bx) * (ax - bx) + (ay - by') * (ay - by') = s := ⟨_, rfl⟩
  rw [hs] at hlt
  obtain ⟨n, hn⟩ : ∃ n, distV ax ay bx by' = n := ⟨_, rfl⟩
  have hv : rootV s = isqrt s.toNat := by simp [rootV, badN]; intro h; omega
  have hi := isqrt_le (m := s.toNat) (n := 1000000) (by omega)
  have hq := (isqrt_spec s.toNat).1
  have hmm : IntKind.i64.wrap ((isqrt s.toNat : Int) * isqrt s.toNat) = (isqrt s.toNat : Int) * isqrt s.toNat := IntWalk.i64_in _ (by
    have : (isqrt s.toNat : Int) * isqrt s.toNat = ((isqrt s.toNat * isqrt s.toNat : Nat) : Int) := by simp
    omega)
  have hroot : rootUp s = n := by rw [← hs, ← hn]; rfl
  unfold legVal
  rw [hn]
  rw [hn] at db
  rw [hs] at r' db
  obtain ⟨_, _, n1, n2⟩ := db
  obtain ⟨g1, g2, g3, g4, g5, g6⟩ := growth_bd (speed := m.speed) (part := m.part) (flow := m.flow) n1 n2 m1 m3 m4 m5 m6
  have l := lasts_bd n1 n2 m1
  have x1 : IntKind.i64.wrap (n * m.part) = n * m.part := IntWalk.i64_in _ (by omega)
  have x2 : IntKind.i64.wrap (lastsV m.speed n * m.flow) = lastsV m.speed n * m.flow := IntWalk.i64_in _ (by omega)
  have x3 : IntKind.i64.wrap (100 * n) = 100 * n := IntWalk.i64_in _ (by omega)
  have c1 := cdiv_bd (a := n * m.part) (b := 1000) g1 (by omega)
  have c2 := cdiv_bd (a := lastsV m.speed n * m.flow) (b := 100) g3 (by omega)
  have x4 : IntKind.i64.wrap (cdiv (n * m.part) 1000 + cdiv (lastsV m.speed n * m.flow) 100) = cdiv (n * m.part) 1000 + cdiv (lastsV m.speed n * m.flow) 100 := IntWalk.i64_in _ (by omega)
  have hl : ∀ w1, Calls Try.prog 53 #[.int .i64 (100 * n), .int .i64 m.speed] w1 fun e w' => e = .returned (.int .i64 (lastsV m.speed n)) ∧ Below w1.heap.size w1 w' := fun w1 => up31_any _ _ w1 (by omega) (by omega) (by omega) (by omega)
  have hu1 : ∀ w1, Calls Try.prog 53 #[.int .i64 (n * m.part), .int .i64 1000] w1 fun e w' => e = .returned (.int .i64 (cdiv (n * m.part) 1000)) ∧ Below w1.heap.size w1 w' := fun w1 => up31_any _ _ w1 (by omega) (by omega) (by omega) (by omega)
  have hu2 : ∀ w1, Calls Try.prog 53 #[.int .i64 (lastsV m.speed n * m.flow), .int .i64 100] w1 fun e w' => e = .returned (.int .i64 (cdiv (lastsV m.speed n * m.flow) 100)) ∧ Below w1.heap.size w1 w' := fun w1 => up31_any _ _ w1 (by omega) (by omega) (by omega) (by omega)
  unfold rootUp at hroot
  clear h1 h2 hq hi c1 c2
  unfold growthV
  obtain ⟨k0, hk0⟩ : ∃ k0 : Int, (isqrt s.toNat : Int) = k0 := ⟨_, rfl⟩
  rw [hk0] at hv hmm hroot hlt
  clear hk0
  clear g5 g6 hn
  unfold msnCells
  rw [if_neg hlt] at hroot
  subst hroot
  have d1 : decide (k0 * k0 < s) = false := by simpa using hlt
  clear hlt
  go_enter Try.func22, Try.ntmps22
  go_wp2_with (first | (go_at_call 52; refine (root_any _ _).mono ?_; rintro e w5 ⟨rfl, hb5⟩; obtain ⟨hc5, hf5⟩ := bcell hb5; have hz5 := hb5.size; try simp at hz5) | (go_at_call 53; refine (hl _).mono ?_; rintro e w6 ⟨rfl, hb6⟩; obtain ⟨hc6, hf6⟩ := bcell hb6; have hz6 := hb6.size; try simp at hz6))
  have e5 : w6.cell? ⟨w.heap.size, 5, none⟩ = some (.int .i64 m.part) := by rw [hc6 _ _ (by omega), hc5 _ _ (by simp; omega)]; simp [go_sem]
  have e6 : w6.cell? ⟨w.heap.size, 6, none⟩ = some (.int .i64 m.flow) := by rw [hc6 _ _ (by omega), hc5 _ _ (by simp; omega)]; simp [go_sem]
  have l5 := Low.fact e5
  have l6 := Low.fact e6
  have z6 : w.heap.size + 1 + 1 + 1 + 1 ≤ w6.heap.size := by omega
  have E6 := hb5.trans (hb6.mono (by simp; omega))
  clear e5 e6 hc5 hc6 hf5 hf6
  (refine (wpIn_wide (n := 9)).1 ?_; refine wpIn_region_low_tail (lets_wide _) 14 (by kernel_rfl) (by kernel_rfl) (by kernel_rfl) ?_; simp only [List.take_succ_cons, List.take_zero, List.drop_succ_cons, List.drop_zero]; (iterate 14 (apply quiet_want; (case hw => rfl); (case hval => (intro w1 hw1; have hcx := Low.cells hw1; simp only [Oper.quietAt]; go_simp; first | done | (first | (go_at_call 53; with_reducible exact Low.calls hw1 (hu1 _)) | (go_at_call 53; with_reducible exact Low.calls hw1 (hu2 _))) | rfl | exact ⟨rfl, rfl⟩)); simp only [Act.put, List.setIfInBounds_toArray, List.set_cons_zero, List.set_cons_succ])); refine wpQuiet_nil ?_; intro w2 hw2)
  have B := E6.trans (hw2.mono (by simp; omega))
  obtain ⟨hc7, hf7⟩ := bcell B
  gi_wp2
  go_wp2
  refine bodyPost_ret (v := .agg #[.int .i64 k0, .int .i64 (lastsV m.speed k0), .int .i64 (cdiv (k0 * m.part) 1000 + cdiv (lastsV m.speed k0 * m.flow) 100)]) ?_ rfl ⟨rfl, ?_⟩
  · simp [results, Try.f22, go_sem, hc7]
  · refine Below.setCell (Below.setCell (Below.setCell ?_ (by simp; omega) _) (by simp; omega) _) (by simp; omega) _
    refine Below.trans ?_ (B.mono (by simp; omega))
    repeat (first | exact Below.refl _ _ | assumption | apply Below.drew | refine Below.setCell ?_ (by first | omega | (simp; done) | (simp; omega)) _ | refine Below.alloc ?_ (by first | omega | (simp; done) | (simp; omega)) _ | refine Below.call (by assumption) ?_ (by first | omega | (simp; done) | (simp; omega)))

theorem between_b1 (m : Msn) (vw vh vr : Value) (ax ay bx by' : Int) (w : World) (hm : legOk m) (ha : nearP ax ay) (hb : nearP bx by') (d0 : (ax == bx) = true) (d0' : (ay == by') = false) (hlt : (isqrt ((ax - bx) * (ax - bx) + (ay - by') * (ay - by')).toNat : Int) * isqrt ((ax - bx) * (ax - bx) + (ay - by') * (ay - by')).toNat < ((ax - bx) * (ax - bx) + (ay - by') * (ay - by'))) :
    Calls Try.prog 22 #[.agg (msnCells m vw vh vr), .agg #[.int .i64 ax, .int .i64 ay], .agg #[.int .i64 bx, .int .i64 by']] w fun e w' => e = .returned (legVal m ax ay bx by') ∧ Below w.heap.size w w' := by
  obtain ⟨m1, m2, m3, m4, m5, m6⟩ := hm
  obtain ⟨a1, a2, a3, a4⟩ := ha
  obtain ⟨b1, b2, b3, b4⟩ := hb
  have h1 := sq_bd (a := ax - bx) (m := 600000) (by omega) (by omega)
  have h2 := sq_bd (a := ay - by') (m := 600000) (by omega) (by omega)
  have p' : IntKind.i64.wrap ((ax - bx) * (ax - bx)) = (ax - bx) * (ax - bx) := IntWalk.i64_in _ (by omega)
  have q' : IntKind.i64.wrap ((ay - by') * (ay - by')) = (ay - by') * (ay - by') := IntWalk.i64_in _ (by omega)
  have r' : IntKind.i64.wrap ((ax - bx) * (ax - bx) + (ay - by') * (ay - by')) = (ax - bx) * (ax - bx) + (ay - by') * (ay - by') := IntWalk.i64_in _ (by omega)
  have db := dist_bd a1 a2 a3 a4 b1 b2 b3 b4
  obtain ⟨s, hs⟩ : ∃ s, (ax - bx) * (ax - bx) + (ay - by') * (ay - by') = s := ⟨_, rfl⟩
  rw [hs] at hlt
  obtain ⟨n, hn⟩ : ∃ n, distV ax ay bx by' = n := ⟨_, rfl⟩
  have hv : rootV s = isqrt s.toNat := by simp [rootV, badN]; intro h; omega
  have hi := isqrt_le (m := s.toNat) (n := 1000000) (by omega)
  have hq := (isqrt_spec s.toNat).1
  have hmm : IntKind.i64.wrap ((isqrt s.toNat : Int) * isqrt s.toNat) = (isqrt s.toNat : Int) * isqrt s.toNat := IntWalk.i64_in _ (by
    have : (isqrt s.toNat : Int) * isqrt s.toNat = ((isqrt s.toNat * isqrt s.toNat : Nat) : Int) := by simp
    omega)
  have hroot : rootUp s = n := by rw [← hs, ← hn]; rfl
  unfold legVal
  rw [hn]
  rw [hn] at db
  rw [hs] at r' db
  obtain ⟨_, _, n1, n2⟩ := db
  obtain ⟨g1, g2, g3, g4, g5, g6⟩ := growth_bd (speed := m.speed) (part := m.part) (flow := m.flow) n1 n2 m1 m3 m4 m5 m6
  have l := lasts_bd n1 n2 m1
  have x1 : IntKind.i64.wrap (n * m.part) = n * m.part := IntWalk.i64_in _ (by omega)
  have x2 : IntKind.i64.wrap (lastsV m.speed n * m.flow) = lastsV m.speed n * m.flow := IntWalk.i64_in _ (by omega)
  have x3 : IntKind.i64.wrap (100 * n) = 100 * n := IntWalk.i64_in _ (by omega)
  have c1 := cdiv_bd (a := n * m.part) (b := 1000) g1 (by omega)
  have c2 := cdiv_bd (a := lastsV m.speed n * m.flow) (b := 100) g3 (by omega)
  have x4 : IntKind.i64.wrap (cdiv (n * m.part) 1000 + cdiv (lastsV m.speed n * m.flow) 100) = cdiv (n * m.part) 1000 + cdiv (lastsV m.speed n * m.flow) 100 := IntWalk.i64_in _ (by omega)
  have hl : ∀ w1, Calls Try.prog 53 #[.int .i64 (100 * n), .int .i64 m.speed] w1 fun e w' => e = .returned (.int .i64 (lastsV m.speed n)) ∧ Below w1.heap.size w1 w' := fun w1 => up31_any _ _ w1 (by omega) (by omega) (by omega) (by omega)
  have hu1 : ∀ w1, Calls Try.prog 53 #[.int .i64 (n * m.part), .int .i64 1000] w1 fun e w' => e = .returned (.int .i64 (cdiv (n * m.part) 1000)) ∧ Below w1.heap.size w1 w' := fun w1 => up31_any _ _ w1 (by omega) (by omega) (by omega) (by omega)
  have hu2 : ∀ w1, Calls Try.prog 53 #[.int .i64 (lastsV m.speed n * m.flow), .int .i64 100] w1 fun e w' => e = .returned (.int .i64 (cdiv (lastsV m.speed n * m.flow) 100)) ∧ Below w1.heap.size w1 w' := fun w1 => up31_any _ _ w1 (by omega) (by omega) (by omega) (by omega)
  unfold rootUp at hroot
  clear h1 h2 hq hi c1 c2
  unfold growthV
  obtain ⟨k0, hk0⟩ : ∃ k0 : Int, (isqrt s.toNat : Int) = k0 := ⟨_, rfl⟩
  rw [hk0] at hv hmm hroot hlt
  clear hk0
  clear g5 g6 hn
  unfold msnCells
  rw [if_pos hlt] at hroot
  go_enter Try.func22, Try.ntmps22
  go_wp2_with (first | (go_at_call 52; refine (root_any _ _).mono ?_; rintro e w5 ⟨rfl, hb5⟩; obtain ⟨hc5, hf5⟩ := bcell hb5; have hz5 := hb5.size; try simp at hz5) | (go_at_call 53; refine (hl _).mono ?_; rintro e w6 ⟨rfl, hb6⟩; obtain ⟨hc6, hf6⟩ := bcell hb6; have hz6 := hb6.size; try simp at hz6))
  have e5 : w6.cell? ⟨w.heap.size, 5, none⟩ = some (.int .i64 m.part) := by rw [hc6 _ _ (by omega), hc5 _ _ (by simp; omega)]; simp [go_sem]
  have e6 : w6.cell? ⟨w.heap.size, 6, none⟩ = some (.int .i64 m.flow) := by rw [hc6 _ _ (by omega), hc5 _ _ (by simp; omega)]; simp [go_sem]
  have l5 := Low.fact e5
  have l6 := Low.fact e6
  have z6 : w.heap.size + 1 + 1 + 1 + 1 ≤ w6.heap.size := by omega
  have E6 := hb5.trans (hb6.mono (by simp; omega))
  clear e5 e6 hc5 hc6 hf5 hf6
  (refine (wpIn_wide (n := 9)).1 ?_; refine wpIn_region_low_tail (lets_wide _) 14 (by kernel_rfl) (by kernel_rfl) (by kernel_rfl) ?_; simp only [List.take_succ_cons, List.take_zero, List.drop_succ_cons, List.drop_zero]; (iterate 14 (apply quiet_want; (case hw => rfl); (case hval => (intro w1 hw1; have hcx := Low.cells hw1; simp only [Oper.quietAt]; go_simp; first | done | (first | (go_at_call 53; with_reducible exact Low.calls hw1 (hu1 _)) | (go_at_call 53; with_reducible exact Low.calls hw1 (hu2 _))) | rfl | exact ⟨rfl, rfl⟩)); simp only [Act.put, List.setIfInBounds_toArray, List.set_cons_zero, List.set_cons_succ])); refine wpQuiet_nil ?_; intro w2 hw2)
  have B := E6.trans (hw2.mono (by simp; omega))
  obtain ⟨hc7, hf7⟩ := bcell B
  gi_wp2
  go_wp2
  refine bodyPost_ret (v := .agg #[.int .i64 n, .int .i64 (lastsV m.speed n), .int .i64 (cdiv (n * m.part) 1000 + cdiv (lastsV m.speed n * m.flow) 100)]) ?_ rfl ⟨rfl, ?_⟩
  · simp [results, Try.f22, go_sem, hc7]
  · refine Below.setCell (Below.setCell (Below.setCell ?_ (by simp; omega) _) (by simp; omega) _) (by simp; omega) _
    refine Below.trans ?_ (B.mono (by simp; omega))
    repeat (first | exact Below.refl _ _ | assumption | apply Below.drew | refine Below.setCell ?_ (by first | omega | (simp; done) | (simp; omega)) _ | refine Below.alloc ?_ (by first | omega | (simp; done) | (simp; omega)) _ | refine Below.call (by assumption) ?_ (by first | omega | (simp; done) | (simp; omega)))

set_option maxHeartbeats 400000 in
theorem between_b2 (m : Msn) (vw vh vr : Value) (ax ay bx by' : Int) (w : World) (hm : legOk m) (ha : nearP ax ay) (hb : nearP bx by') (d0 : (ax == bx) = true) (d0' : (ay == by') = false) (hlt : ¬ (isqrt ((ax - bx) * (ax - bx) + (ay - by') * (ay - by')).toNat : Int) * isqrt ((ax - bx) * (ax - bx) + (ay - by') * (ay - by')).toNat < ((ax - bx) * (ax - bx) + (ay - by') * (ay - by'))) :
    Calls Try.prog 22 #[.agg (msnCells m vw vh vr), .agg #[.int .i64 ax, .int .i64 ay], .agg #[.int .i64 bx, .int .i64 by']] w fun e w' => e = .returned (legVal m ax ay bx by') ∧ Below w.heap.size w w' := by
  obtain ⟨m1, m2, m3, m4, m5, m6⟩ := hm
  obtain ⟨a1, a2, a3, a4⟩ := ha
  obtain ⟨b1, b2, b3, b4⟩ := hb
  have h1 := sq_bd (a := ax - bx) (m := 600000) (by omega) (by omega)
  have h2 := sq_bd (a := ay - by') (m := 600000) (by omega) (by omega)
  have p' : IntKind.i64.wrap ((ax - bx) * (ax - bx)) = (ax - bx) * (ax - bx) := IntWalk.i64_in _ (by omega)
  have q' : IntKind.i64.wrap ((ay - by') * (ay - by')) = (ay - by') * (ay - by') := IntWalk.i64_in _ (by omega)
  have r' : IntKind.i64.wrap ((ax - bx) * (ax - bx) + (ay - by') * (ay - by')) = (ax - bx) * (ax - bx) + (ay - by') * (ay - by') := IntWalk.i64_in _ (by omega)
  have db := dist_bd a1 a2 a3 a4 b1 b2 b3 b4
  obtain ⟨s, hs⟩ : ∃ s, (ax - bx) * (ax - bx) + (ay - by') * (ay - by') = s := ⟨_, rfl⟩
  rw [hs] at hlt
  obtain ⟨n, hn⟩ : ∃ n, distV ax ay bx by' = n := ⟨_, rfl⟩
  have hv : rootV s = isqrt s.toNat := by simp [rootV, badN]; intro h; omega
  have hi := isqrt_le (m := s.toNat) (n := 1000000) (by omega)
  have hq := (isqrt_spec s.toNat).1
  have hmm : IntKind.i64.wrap ((isqrt s.toNat : Int) * isqrt s.toNat) = (isqrt s.toNat : Int) * isqrt s.toNat := IntWalk.i64_in _ (by
    have : (isqrt s.toNat : Int) * isqrt s.toNat = ((isqrt s.toNat * isqrt s.toNat : Nat) : Int) := by simp
    omega)
  have hroot : rootUp s = n := by rw [← hs, ← hn]; rfl
  unfold legVal
  rw [hn]
  rw [hn] at db
  rw [hs] at r' db
  obtain ⟨_, _, n1, n2⟩ := db
  obtain ⟨g1, g2, g3, g4, g5, g6⟩ := growth_bd (speed := m.speed) (part := m.part) (flow := m.flow) n1 n2 m1 m3 m4 m5 m6
  have l := lasts_bd n1 n2 m1
  have x1 : IntKind.i64.wrap (n * m.part) = n * m.part := IntWalk.i64_in _ (by omega)
  have x2 : IntKind.i64.wrap (lastsV m.speed n * m.flow) = lastsV m.speed n * m.flow := IntWalk.i64_in _ (by omega)
  have x3 : IntKind.i64.wrap (100 * n) = 100 * n := IntWalk.i64_in _ (by omega)
  have c1 := cdiv_bd (a := n * m.part) (b := 1000) g1 (by omega)
  have c2 := cdiv_bd (a := lastsV m.speed n * m.flow) (b := 100) g3 (by omega)
  have x4 : IntKind.i64.wrap (cdiv (n * m.part) 1000 + cdiv (lastsV m.speed n * m.flow) 100) = cdiv (n * m.part) 1000 + cdiv (lastsV m.speed n * m.flow) 100 := IntWalk.i64_in _ (by omega)
  have hl : ∀ w1, Calls Try.prog 53 #[.int .i64 (100 * n), .int .i64 m.speed] w1 fun e w' => e = .returned (.int .i64 (lastsV m.speed n)) ∧ Below w1.heap.size w1 w' := fun w1 => up31_any _ _ w1 (by omega) (by omega) (by omega) (by omega)
  have hu1 : ∀ w1, Calls Try.prog 53 #[.int .i64 (n * m.part), .int .i64 1000] w1 fun e w' => e = .returned (.int .i64 (cdiv (n * m.part) 1000)) ∧ Below w1.heap.size w1 w' := fun w1 => up31_any _ _ w1 (by omega) (by omega) (by omega) (by omega)
  have hu2 : ∀ w1, Calls Try.prog 53 #[.int .i64 (lastsV m.speed n * m.flow), .int .i64 100] w1 fun e w' => e = .returned (.int .i64 (cdiv (lastsV m.speed n * m.flow) 100)) ∧ Below w1.heap.size w1 w' := fun w1 => up31_any _ _ w1 (by omega) (by omega) (by omega) (by omega)
  unfold rootUp at hroot
  clear h1 h2 hq hi c1 c2
  unfold growthV
  obtain ⟨k0, hk0⟩ : ∃ k0 : Int, (isqrt s.toNat : Int) = k0 := ⟨_, rfl⟩
  rw [hk0] at hv hmm hroot hlt
  clear hk0
  clear g5 g6 hn
  unfold msnCells
  rw [if_neg hlt] at hroot
  subst hroot
  have d1 : decide (k0 * k0 < s) = false := by simpa using hlt
  clear hlt
  go_enter Try.func22, Try.ntmps22
  go_wp2_with (first | (go_at_call 52; refine (root_any _ _).mono ?_; rintro e w5 ⟨rfl, hb5⟩; obtain ⟨hc5, hf5⟩ := bcell hb5; have hz5 := hb5.size; try simp at hz5) | (go_at_call 53; refine (hl _).mono ?_; rintro e w6 ⟨rfl, hb6⟩; obtain ⟨hc6, hf6⟩ := bcell hb6; have hz6 := hb6.size; try simp at hz6))
  have e5 : w6.cell? ⟨w.heap.size, 5, none⟩ = some (.int .i64 m.part) := by rw [hc6 _ _ (by omega), hc5 _ _ (by simp; omega)]; simp [go_sem]
  have e6 : w6.cell? ⟨w.heap.size, 6, none⟩ = some (.int .i64 m.flow) := by rw [hc6 _ _ (by omega), hc5 _ _ (by simp; omega)]; simp [go_sem]
  have l5 := Low.fact e5
  have l6 := Low.fact e6
  have z6 : w.heap.size + 1 + 1 + 1 + 1 ≤ w6.heap.size := by omega
  have E6 := hb5.trans (hb6.mono (by simp; omega))
  clear e5 e6 hc5 hc6 hf5 hf6
  (refine (wpIn_wide (n := 9)).1 ?_; refine wpIn_region_low_tail (lets_wide _) 14 (by kernel_rfl) (by kernel_rfl) (by kernel_rfl) ?_; simp only [List.take_succ_cons, List.take_zero, List.drop_succ_cons, List.drop_zero]; (iterate 14 (apply quiet_want; (case hw => rfl); (case hval => (intro w1 hw1; have hcx := Low.cells hw1; simp only [Oper.quietAt]; go_simp; first | done | (first | (go_at_call 53; with_reducible exact Low.calls hw1 (hu1 _)) | (go_at_call 53; with_reducible exact Low.calls hw1 (hu2 _))) | rfl | exact ⟨rfl, rfl⟩)); simp only [Act.put, List.setIfInBounds_toArray, List.set_cons_zero, List.set_cons_succ])); refine wpQuiet_nil ?_; intro w2 hw2)
  have B := E6.trans (hw2.mono (by simp; omega))
  obtain ⟨hc7, hf7⟩ := bcell B
  gi_wp2
  go_wp2
  refine bodyPost_ret (v := .agg #[.int .i64 k0, .int .i64 (lastsV m.speed k0), .int .i64 (cdiv (k0 * m.part) 1000 + cdiv (lastsV m.speed k0 * m.flow) 100)]) ?_ rfl ⟨rfl, ?_⟩
  · simp [results, Try.f22, go_sem, hc7]
  · refine Below.setCell (Below.setCell (Below.setCell ?_ (by simp; omega) _) (by simp; omega) _) (by simp; omega) _
    refine Below.trans ?_ (B.mono (by simp; omega))
    repeat (first | exact Below.refl _ _ | assumption | apply Below.drew | refine Below.setCell ?_ (by first | omega | (simp; done) | (simp; omega)) _ | refine Below.alloc ?_ (by first | omega | (simp; done) | (simp; omega)) _ | refine Below.call (by assumption) ?_ (by first | omega | (simp; done) | (simp; omega)))

theorem leg_any (m : Msn) (vw vh vr : Value) (ax ay bx by' : Int) (w : World) (hm : legOk m) (ha : nearP ax ay) (hb : nearP bx by') :
    Calls Try.prog 22 #[.agg (msnCells m vw vh vr), .agg #[.int .i64 ax, .int .i64 ay], .agg #[.int .i64 bx, .int .i64 by']] w fun e w' => e = .returned (legVal m ax ay bx by') ∧ Below w.heap.size w w' := by
  by_cases hlt : (isqrt ((ax - bx) * (ax - bx) + (ay - by') * (ay - by')).toNat : Int) * isqrt ((ax - bx) * (ax - bx) + (ay - by') * (ay - by')).toNat < ((ax - bx) * (ax - bx) + (ay - by') * (ay - by'))
  · by_cases hx : ax = bx
    · by_cases hy : ay = by'
      · subst hx; subst hy; exact between_same m vw vh vr ax ay w
      · exact between_b1 m vw vh vr ax ay bx by' w hm ha hb (by simpa using hx) (by simpa using hy) hlt
    · exact between_a1 m vw vh vr ax ay bx by' w hm ha hb (by simpa using hx) hlt
  · by_cases hx : ax = bx
    · by_cases hy : ay = by'
      · subst hx; subst hy; exact between_same m vw vh vr ax ay w
      · exact between_b2 m vw vh vr ax ay bx by' w hm ha hb (by simpa using hx) (by simpa using hy) hlt
    · exact between_a2 m vw vh vr ax ay bx by' w hm ha hb (by simpa using hx) hlt
end Go.Proofs.Ytoekcefhphcjjaa
