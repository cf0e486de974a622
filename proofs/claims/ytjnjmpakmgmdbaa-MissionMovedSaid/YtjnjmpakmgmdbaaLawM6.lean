/- For all missions (up to 8 ways and 12 rocks): a mission that is moved as a whole has the same legs; a faster one has legs that take no longer, and grow no more. No condition. -/
import Derived.Test.YtjnjmpakmgmdbaaHead31
import Derived.Test.YtjnjmpakmgmdbaaOpen
import Derived.Test.YtjnjmpakmgmdbaaCopy
import Derived.OwnWalk
import Derived.Laws.OwnMore
import Derived.Deep.CutRange
namespace Go.Proofs.Ytjnjmpakmgmdbaa.missionMoved
open Go.ChangeShapes Go.WideShapes Go.ChangeAt Go.RowKit
set_option linter.unusedVariables false
theorem own : ownKnob Try.prog.godebug = none := by kernel_rfl
theorem laidOut : laidOutB Try.prog = true := by kernel_rfl
attribute [local irreducible] wpQuiet

/-- a way that is moved -/
def mvW (dx dy : Int) (a : Wy) : Wy := { a with x := wrap64 (a.x + dx), y := wrap64 (a.y + dy) }
def mvM (m : Msn) (dx dy : Int) : Msn := { m with ways := m.ways.map (mvW dx dy) }
theorem wy_mv {m : Msn} {dx dy : Int} {j : Nat} (hj : j < m.ways.length) : wy (m.ways.map (mvW dx dy)) j = mvW dx dy (wy m.ways j) := by
  simp [wy, List.getD, hj]
theorem wrap_gap {a b d : Int} (ha : -300000 ≤ a ∧ a ≤ 300000) (hb : -300000 ≤ b ∧ b ≤ 300000) (ha' : -300000 ≤ wrap64 (a + d) ∧ wrap64 (a + d) ≤ 300000) (hb' : -300000 ≤ wrap64 (b + d) ∧ wrap64 (b + d) ≤ 300000) :
    wrap64 (a + d) - wrap64 (b + d) = a - b := by
  unfold wrap64 at *
  omega
theorem leg_mv {m : Msn} {dx dy : Int} (V : VMsn m) (V2 : VMsn (mvM m dx dy)) {a b : Nat} (ha : a < m.ways.length) (hb : b < m.ways.length) : dLeg (mvM m dx dy) a b = dLeg m a b := by
  have l : (mvM m dx dy).ways.length = m.ways.length := by simp [mvM]
  have n1 := way_near V.ways ha
  have n2 := way_near V.ways hb
  have n3 := way_near V2.ways (j := a) (by rw [l]; exact ha)
  have n4 := way_near V2.ways (j := b) (by rw [l]; exact hb)
  unfold dLeg
  have e1 : wy (mvM m dx dy).ways a = mvW dx dy (wy m.ways a) := wy_mv ha
  have e2 : wy (mvM m dx dy).ways b = mvW dx dy (wy m.ways b) := wy_mv hb
  rw [e1] at n3
  rw [e2] at n4
  rw [e1, e2]
  obtain ⟨p1, p2, p3, p4⟩ := n1
  obtain ⟨q1, q2, q3, q4⟩ := n2
  obtain ⟨r1, r2, r3, r4⟩ := n3
  obtain ⟨s1, s2, s3, s4⟩ := n4
  have g1 := wrap_gap ⟨p1, p2⟩ ⟨q1, q2⟩ ⟨r1, r2⟩ ⟨s1, s2⟩
  have g2 := wrap_gap ⟨p3, p4⟩ ⟨q3, q4⟩ ⟨r3, r4⟩ ⟨s3, s4⟩
  unfold distV
  simp only [mvW]
  rw [g1, g2]

/-- a faster mission -/
def fastM (m : Msn) (s : Int) : Msn := { m with speed := s }
theorem cdiv_mono {a b c : Int} (ha : 0 ≤ a) (h : a ≤ b) (hc : 1 ≤ c) : cdiv a c ≤ cdiv b c := by
  have p := cdiv_bd ha hc
  have q := cdiv_bd (a := b) (by omega) hc
  rcases Int.lt_or_le (cdiv b c) (cdiv a c) with h1 | h1
  · have := Int.mul_le_mul_of_nonneg_right (show cdiv b c ≤ cdiv a c - 1 by omega) (show 0 ≤ c by omega)
    omega
  · exact h1
theorem lasts_anti {s s' n : Int} (hn : 0 ≤ n) (hs : 1 ≤ s) (h : s ≤ s') : lastsV s' n ≤ lastsV s n := by
  have p := cdiv_bd (a := 100 * n) (b := s) (by omega) hs
  have q := cdiv_bd (a := 100 * n) (b := s') (by omega) (by omega)
  change 0 ≤ lastsV s n ∧ _ ∧ 100 * n ≤ lastsV s n * s ∧ _ at p
  change 0 ≤ lastsV s' n ∧ _ ∧ _ ∧ (lastsV s' n - 1) * s' < 100 * n at q
  rcases Int.lt_or_le (lastsV s n) (lastsV s' n) with h1 | h1
  · have a := Int.mul_le_mul_of_nonneg_right (show lastsV s n ≤ lastsV s' n - 1 by omega) (show 0 ≤ s' by omega)
    have b := Int.mul_le_mul_of_nonneg_left h p.1
    omega
  · exact h1
theorem growth_anti {s s' part flow n : Int} (hn : 0 ≤ n) (hs : 1 ≤ s) (h : s ≤ s') (hf : 0 ≤ flow) : growthV s' part flow n ≤ growthV s part flow n := by
  have a := lasts_anti hn hs h
  have p := cdiv_bd (a := 100 * n) (b := s') (by omega) (by omega)
  change 0 ≤ lastsV s' n ∧ _ at p
  have b := Int.mul_le_mul_of_nonneg_right a hf
  have c := cdiv_mono (Int.mul_nonneg p.1 hf) b (show (1 : Int) ≤ 100 by omega)
  unfold growthV
  omega
theorem fast_leg {m : Msn} (V : VMsn m) {s : Int} (h : m.speed ≤ s) {a b : Nat} (ha : a < m.ways.length) (hb : b < m.ways.length) :
    dLeg (fastM m s) a b = dLeg m a b ∧ tLeg (fastM m s) a b ≤ tLeg m a b ∧ gLeg (fastM m s) a b ≤ gLeg m a b := by
  have d := dLeg_bd V.ways ha hb
  obtain ⟨m1, m2, m3, m4, m5, m6⟩ := V.leg
  refine ⟨rfl, ?_, ?_⟩
  · show lastsV s (dLeg m a b) ≤ lastsV m.speed (dLeg m a b)
    exact lasts_anti d.1 m1 h
  · show growthV s m.part m.flow (dLeg m a b) ≤ growthV m.speed m.part m.flow (dLeg m a b)
    exact growth_anti d.1 m1 h m5
theorem fast_grown {m : Msn} (V : VMsn m) {s : Int} (h : m.speed ≤ s) : ∀ k, k < m.ways.length → grownTo (fastM m s) k ≤ grownTo m k
  | 0, _ => Int.le_refl _
  | k + 1, hk => by
    have ih := fast_grown V h k (by omega)
    have hb := way_back V.ways hk
    have g1 := (fast_leg V h (a := k) (b := k + 1) (by omega) hk).2.2
    have g2 := (fast_leg V h (a := k + 1) (b := (wy m.ways (k + 1)).back.toNat) hk (by omega)).2.2
    show grownTo (fastM m s) k + (gLeg (fastM m s) k (k + 1) + gLeg (fastM m s) (k + 1) (wy m.ways (k + 1)).back.toNat) ≤ grownTo m k + (gLeg m k (k + 1) + gLeg m (k + 1) (wy m.ways (k + 1)).back.toNat)
    omega
theorem fast_valid {m : Msn} (V : VMsn m) {s : Int} (h : m.speed ≤ s) (hs : s ≤ 20000) : validB (fastM m s) = true := by
  obtain ⟨m1, m2, m3, m4, m5, m6⟩ := V.leg
  have n2 := V.n2
  exact (validB_iff _).2 ⟨V.n2, V.n41, V.nr, V.ways, V.home, V.rocks, V.start, ⟨by show 1 ≤ s; omega, hs, m3, m4, m5, m6⟩, V.idle, V.drive, V.battery, V.deadline, Int.le_trans (fast_grown V h (m.ways.length - 1) (by omega)) V.grown⟩

theorem wayInfo : (Try.prog.info? 40).map (fun i => (i.zero, i.size, i.bytes)) = some (some (.agg #[.int .i64 0, .int .i64 0, .int .i64 0, .int .i64 0, .int .i64 0]), 5, 40) := by kernel_rfl
/-- the cells of ways, one behind the other -/
def flat (l : List Wy) : List Value := l.flatMap fun a => [.int .i64 a.x, .int .i64 a.y, .int .i64 a.fix, .int .i64 a.wait, .int .i64 a.back]
theorem flat_len : ∀ l : List Wy, (flat l).length = l.length * 5
  | [] => rfl
  | a :: l => by
    have := flat_len l
    simp only [flat, List.flatMap_cons, List.length_append, List.length_cons, List.length_nil] at *
    omega
theorem flat_one : ∀ l : List Wy, ∀ u ∈ flat l, u.oneCell' = true
  | [], u, h => by simp [flat] at h
  | a :: l, u, h => by
    simp only [flat, List.flatMap_cons, List.mem_append] at h
    rcases h with h | h
    · simp only [List.mem_cons, List.not_mem_nil, or_false] at h
      rcases h with rfl | rfl | rfl | rfl | rfl <;> rfl
    · exact flat_one l u h
theorem flat_get : ∀ (l : List Wy) (j : Nat), j < l.length → (flat l)[j * 5]? = some (.int .i64 (wy l j).x) ∧ (flat l)[j * 5 + 1]? = some (.int .i64 (wy l j).y) ∧ (flat l)[j * 5 + 2]? = some (.int .i64 (wy l j).fix) ∧ (flat l)[j * 5 + 3]? = some (.int .i64 (wy l j).wait) ∧ (flat l)[j * 5 + 4]? = some (.int .i64 (wy l j).back)
  | [], j, h => by simp at h
  | a :: l, 0, h => by simp [flat, wy]
  | a :: l, j + 1, h => by
    have ih := flat_get l j (by simpa using h)
    have e : ∀ c, (flat (a :: l))[(j + 1) * 5 + c]? = (flat l)[j * 5 + c]? := fun c => by
      simp only [flat, List.flatMap_cons]
      rw [List.getElem?_append_right (by simp; omega)]
      congr 1
      simp; omega
    have e0 := e 0
    simp only [Nat.add_zero] at e0
    have w : wy (a :: l) (j + 1) = wy l j := by simp [wy]
    rw [e0, e 1, e 2, e 3, e 4, w]
    exact ih
/-- the first k ways are moved -/
def MvTo (l : List Wy) (dx dy : Int) (k : Nat) (xs : List Value) : Prop :=
  ∀ j, j < l.length → xs[j * 5]? = some (.int .i64 (if j < k then (mvW dx dy (wy l j)).x else (wy l j).x)) ∧ xs[j * 5 + 1]? = some (.int .i64 (if j < k then (mvW dx dy (wy l j)).y else (wy l j).y)) ∧
    xs[j * 5 + 2]? = some (.int .i64 (wy l j).fix) ∧ xs[j * 5 + 3]? = some (.int .i64 (wy l j).wait) ∧ xs[j * 5 + 4]? = some (.int .i64 (wy l j).back)
theorem MvTo.zero (l : List Wy) (dx dy : Int) : MvTo l dx dy 0 (flat l) := fun j hj => by
  simpa using flat_get l j hj
theorem MvTo.next {l : List Wy} {dx dy : Int} {k : Nat} {xs : List Value} (h : MvTo l dx dy k xs) (hk : k < l.length) (hl : xs.length = l.length * 5) :
    MvTo l dx dy (k + 1) ((xs.set (k * 5) (.int .i64 (mvW dx dy (wy l k)).x)).set (k * 5 + 1) (.int .i64 (mvW dx dy (wy l k)).y)) := by
  intro j hj
  obtain ⟨h1, h2, h3, h4, h5⟩ := h j hj
  have s : ∀ (u v : Value) i, i ≠ k * 5 → i ≠ k * 5 + 1 → ((xs.set (k * 5) u).set (k * 5 + 1) v)[i]? = xs[i]? := fun u v i h1 h2 => by
    rw [List.getElem?_set_ne (Ne.symm h2), List.getElem?_set_ne (Ne.symm h1)]
  by_cases e : j = k
  · subst e
    rw [if_pos (by omega), if_pos (by omega)]
    refine ⟨?_, ?_, by rw [s _ _ _ (by omega) (by omega)]; exact h3, by rw [s _ _ _ (by omega) (by omega)]; exact h4, by rw [s _ _ _ (by omega) (by omega)]; exact h5⟩
    · rw [List.getElem?_set_ne (by omega), List.getElem?_set_self (by omega)]
    · rw [List.getElem?_set_self (by simp; omega)]
  · have c : (j < k + 1) ↔ j < k := by omega
    simp only [c]
    rw [s _ _ _ (by omega) (by omega), s _ _ _ (by omega) (by omega), s _ _ _ (by omega) (by omega), s _ _ _ (by omega) (by omega), s _ _ _ (by omega) (by omega)]
    exact ⟨h1, h2, h3, h4, h5⟩
theorem MvTo.ways {W : World} {base g cap : Nat} {m : Msn} {dx dy : Int} {xs : List Value} (h : MvTo m.ways dx dy m.ways.length xs) (hrow : W.ownsRow base 40 5 (.slice (some ⟨g, 0, none⟩) m.ways.length cap) m.ways.length xs) (hl : m.ways.length ≤ 70368744177663) :
    ∃ c, cap = m.ways.length + c ∧ WaysAt W.heap.size W (.slice (some ⟨g, 0, none⟩) m.ways.length (m.ways.length + c)) (mvM m dx dy).ways := by
  rcases hrow.2 with ⟨h', _⟩ | ⟨g', cap', cur, h', hb, hg, hnc, hcm, hcs, htake⟩
  · simp at h'
  · simp only [Value.slice.injEq, Option.some.injEq, Addr.mk.injEq, and_true, true_and] at h'
    obtain ⟨rfl, rfl⟩ := h'
    have l : (mvM m dx dy).ways.length = m.ways.length := by simp [mvM]
    refine ⟨cap - m.ways.length, by omega, by rw [l]; exact hl, _, cap - m.ways.length, by rw [l], .inr ⟨g, 0, rfl, (Array.getElem?_eq_some_iff.1 hg).1, fun j hj => ?_⟩⟩
    rw [l] at hj
    have e : wy (mvM m dx dy).ways j = mvW dx dy (wy m.ways j) := wy_mv hj
    rw [e]
    obtain ⟨h1, h2, h3, h4, h5⟩ := h j hj
    rw [if_pos hj] at h1 h2
    have c := fun i v hi (hv : xs[i]? = some v) => (hrow.cellAt i hi).trans hv
    rw [Nat.zero_add]
    exact ⟨c _ _ (by omega) h1, c _ _ (by omega) h2, c _ _ (by omega) h3, c _ _ (by omega) h4, c _ _ (by omega) h5⟩

theorem row_block {W W' : World} {base g n cap size : Nat} {e : TypeId} {xs : List Value} (h : W.ownsRow base e size (.slice (some ⟨g, 0, none⟩) n cap) n xs) (hb : W'.heap[g]? = W.heap[g]?) : W'.ownsRow base e size (.slice (some ⟨g, 0, none⟩) n cap) n xs := by
  rcases h.2 with ⟨h', _⟩ | ⟨g', cap', cur, h', r1, r2, r3⟩
  · simp at h'
  · simp only [Value.slice.injEq, Option.some.injEq, Addr.mk.injEq, and_true, true_and] at h'
    obtain ⟨rfl, rfl⟩ := h'
    exact ⟨h.1, .inr ⟨g, cap, cur, rfl, r1, hb.trans r2, r3⟩⟩
theorem row_shape {W : World} {base n size : Nat} {e : TypeId} {v : Value} {xs : List Value} (h : W.ownsRow base e size v n xs) (h0 : 0 < n) : ∃ g cap, v = .slice (some ⟨g, 0, none⟩) n cap := by
  rcases h.2 with ⟨_, h'⟩ | ⟨g, cap, cur, h', _⟩
  · omega
  · exact ⟨g, cap, h'⟩
theorem row_lt {W : World} {base g n cap size : Nat} {e : TypeId} {xs : List Value} (h : W.ownsRow base e size (.slice (some ⟨g, 0, none⟩) n cap) n xs) : base ≤ g ∧ g < W.heap.size := h.lt g rfl
theorem flat_cells {W : World} {b o : Nat} {l : List Wy} (h : ∀ j, j < l.length → W.cell? ⟨b, o + j * 5, none⟩ = some (.int .i64 (wy l j).x) ∧ W.cell? ⟨b, o + j * 5 + 1, none⟩ = some (.int .i64 (wy l j).y) ∧ W.cell? ⟨b, o + j * 5 + 2, none⟩ = some (.int .i64 (wy l j).fix) ∧ W.cell? ⟨b, o + j * 5 + 3, none⟩ = some (.int .i64 (wy l j).wait) ∧ W.cell? ⟨b, o + j * 5 + 4, none⟩ = some (.int .i64 (wy l j).back)) :
    ∀ j u, (flat l)[j]? = some u → W.cell? ((⟨b, o, none⟩ : Addr).add j) = some u := by
  intro j u hu
  have hlt : j < (flat l).length := (List.getElem?_eq_some_iff.1 hu).1
  rw [flat_len] at hlt
  have e : (⟨b, o, none⟩ : Addr).add j = ⟨b, o + j, none⟩ := by unfold Addr.add; split <;> simp_all
  rw [e]
  obtain ⟨q, r, hr, rfl⟩ : ∃ q r, r < 5 ∧ j = q * 5 + r := ⟨j / 5, j % 5, Nat.mod_lt _ (by omega), by omega⟩
  have hq : q < l.length := by omega
  obtain ⟨f0, f1, f2, f3, f4⟩ := flat_get l q hq
  obtain ⟨g0, g1, g2, g3, g4⟩ := h q hq
  rw [← Nat.add_assoc]
  match r, hr with
  | 0, _ => rw [Nat.add_zero] at hu ⊢; rw [f0] at hu; rw [g0]; exact hu
  | 1, _ => rw [f1] at hu; rw [g1]; exact hu
  | 2, _ => rw [f2] at hu; rw [g2]; exact hu
  | 3, _ => rw [f3] at hu; rw [g3]; exact hu
  | 4, _ => rw [f4] at hu; rw [g4]; exact hu

set_option linter.unusedSimpArgs false in
set_option maxRecDepth 8000 in
set_option maxHeartbeats 3000000 in
theorem walk (w : World) (m : Msn) (vw vh vr : Value) (dx dy f i j : Int) (hm : MsnAt w.heap.size w m vw vh vr) (w2 : (Lit.int .u16 f).wf = true) (w3 : (Lit.int .u8 i).wf = true) (w4 : (Lit.int .u8 j).wf = true) :
    Calls Try.prog 8 #[.agg (msnCells m vw vh vr), .agg #[.int .i64 dx, .int .i64 dy], .int .u16 f, .int .u8 i, .int .u8 j] w fun e w' => e = .returned (.bool true) ∧ Below w.heap.size w w' := by
  obtain ⟨f, rfl, hf⟩ := u16_bd w2
  obtain ⟨i, rfl, hi⟩ := u8_bd w3
  obtain ⟨j, rfl, hj⟩ := u8_bd w4
  clear w2 w3 w4
  obtain ⟨_, a1, cap1, hvw, _⟩ := hm.1
  subst hvw
  have hone : (msnCells m (.slice a1 m.ways.length (m.ways.length + cap1)) vh vr).all (·.oneCell') = true := by
    obtain ⟨_, ⟨_, a2, cap2, rfl, _⟩, ⟨_, a3, cap3, rfl, _⟩⟩ := hm
    simp [msnCells, Value.oneCell']
  have hff := fun w1 h => few_any m (.slice a1 m.ways.length (m.ways.length + cap1)) vh vr w1 h
  have HF := Lib.hid hff
  have H0 := (Has.new w (msnCells m (.slice a1 m.ways.length (m.ways.length + cap1)) vh vr) 26).below ((Below.refl (w.heap.size + 1) _).alloc (by simp) (.cells #[.int .i64 dx, .int .i64 dy] 38)) (by omega)
  have P0 := Has.new (w.alloc (.cells (msnCells m (.slice a1 m.ways.length (m.ways.length + cap1)) vh vr) 26)) #[.int .i64 dx, .int .i64 dy] 38
  rw [World.size_alloc] at P0
  have HM := Lib.hid hm
  have H0' := Lib.hid H0
  have P0' := Lib.hid P0
  clear hff hm H0 P0
  unfold msnCells at *
  go_enter Try.func8, Try.ntmps8
  go_wp2_with fail
  refine (head31_any _).mono ?_
  rintro e w1 ⟨rfl, hb1⟩
  have B1 : Below w.heap.size w w1 := (((Below.refl _ w).alloc (Nat.le_refl _) _).alloc (by simp) _).trans (hb1.mono (by simp; omega))
  have H1 := H0'.out.below (hb1.mono (by simp) : Below (w.heap.size + 2) _ w1) (by omega)
  have P1' := Lib.hid (P0'.out.below (hb1.mono (by simp) : Below (w.heap.size + 2) _ w1) (by omega))
  have z1 := H1.lt
  have H1' := Lib.hid H1
  obtain ⟨c0, c1, c2, c3, c4, c5, c6, c7, c8, c9, c10⟩ := msn_cells (m := m) (vw := .slice a1 m.ways.length (m.ways.length + cap1)) (vh := vh) (vr := vr) H1
  clear hb1 H1
  go_wp2_with fail; refine (HF.out _ ((HM.out.below B1).mono B1.size)).mono ?_; rintro e w2 ⟨rfl, hb2⟩; have B2 := B1.trans (hb2.mono B1.size); have H2 := H1'.out.below hb2 z1; have z2 := H2.lt; have H2' := Lib.hid H2; obtain ⟨c0, c1, c2, c3, c4, c5, c6, c7, c8, c9, c10⟩ := msn_cells (m := m) (vw := .slice a1 m.ways.length (m.ways.length + cap1)) (vh := vh) (vr := vr) H2; have P2' := Lib.hid (P1'.out.below hb2 P1'.out.lt); clear hb2 H2
  cases hfew : fewB m
  · go_wp2
    go_ret
    exact ⟨rfl, B2⟩
  have hl8 : m.ways.length ≤ 8 := by
    simp only [fewB, Bool.and_eq_true, decide_eq_true_eq] at hfew
    exact hfew.1.1.1
  have hfw := Lib.hid hfew
  clear hfew
  by_cases hl0 : m.ways.length = 0
  · have d0 : ((m.ways.length : Int) == 0) = true := by simp [hl0]
    clear hl0
    go_wp2
    go_ret
    exact ⟨rfl, B2⟩
  have d0 : ((m.ways.length : Int) == 0) = false := by rw [beq_eq_false_iff_ne]; omega
  have h0 : 0 < m.ways.length := by omega
  have hne : ¬ m.ways = [] := by intro h; rw [h] at h0; simp at h0
  clear hl0
  obtain ⟨a, ha1, ha2, ha3⟩ := mod_at (i := i) h0
  obtain ⟨b, hb1, hb2, hb3⟩ := mod_at (i := j) h0
  have i1 : IntKind.i64.wrap (i : Int) = i := IntWalk.i64_in _ (by omega)
  have j1 : IntKind.i64.wrap (j : Int) = j := IntWalk.i64_in _ (by omega)
  go_wp2
  clear c0 c1 c2 c3 c4 c5 c6 c7 c8 c9 c10
  obtain ⟨c0, c1, c2, c3, c4, c5, c6, c7, c8, c9, c10⟩ := msn_low (m := m) (vw := .slice a1 m.ways.length (m.ways.length + cap1)) (vh := vh) (vr := vr) H2'.out
  (refine wp_region_low (by kernel_rfl) (by kernel_rfl) ?_; (iterate 14 (apply quiet_want; (case hw => rfl); (case hval => (intro w1 hw1; have hcx := Low.cells hw1; simp only [Oper.quietAt]; go_simp; first | done | (first | fail) | rfl | exact ⟨rfl, rfl⟩)); simp only [Act.put, List.setIfInBounds_toArray, List.set_cons_zero, List.set_cons_succ])); refine wpQuiet_nil ?_; intro w2 hw2)
  have B3 := B2.trans (hw2.out.mono B2.size)
  have H3 := H2'.out.below hw2.out z2
  have P3' := Lib.hid (P2'.out.below hw2.out P2'.out.lt)
  have z3 := H3.lt
  have H3' := Lib.hid H3
  clear c0 c1 c2 c3 c4 c5 c6 c7 c8 c9 c10 ha1 ha3 hb1 hb3 i1 j1 hw2 H3
  generalize w2 = w3 at *
  go_upto_region 5 with fail
  go_cut [14, 15] from 48 (fun b1 b2 wx => ∃ x y, b1 = .pointer (some ⟨x, 0, none⟩) ∧ b2 = .pointer (some ⟨y, 0, none⟩) ∧ x ≠ y ∧ w3.heap.size ≤ x ∧ w3.heap.size ≤ y ∧ Has wx x (msnCells m (.slice a1 m.ways.length (m.ways.length + cap1)) vh vr) 26 ∧ Has wx y (msnCells m (.slice a1 m.ways.length (m.ways.length + cap1)) vh vr) 26 ∧ Below w3.heap.size w3 wx)
  case first =>
    have hbx := H3'.out
    have hlx := hbx.lt
    refine (wpIn_wide (n := 9)).1 ?_
    refine wpIn_region_sched (lets_wide _) 5 (fun X => Has X w.heap.size (msnCells m (.slice a1 m.ways.length (m.ways.length + cap1)) vh vr) 26) (by kernel_rfl) (by kernel_rfl) (by kernel_rfl) fun hH inv0 => ?_
    refine sched_take hH (i := 0) (v := .agg (msnCells m (.slice a1 m.ways.length (m.ways.length + cap1)) vh vr)) (drop_get rfl) (by omega) inv0 (by kernel_rfl) (by kernel_rfl) rfl (fun X hX => ?_) fun inv1 => ?_
    · have hx := msn_cells hX; unfold msnCells; obtain ⟨c0, c1, c2, c3, c4, c5, c6, c7, c8, c9, c10⟩ := hx; go_simp
    simp only [Act.put, List.setIfInBounds_toArray, List.set_cons_zero, List.set_cons_succ]
    refine sched_take hH (i := 1) (v := .agg (msnCells m (.slice a1 m.ways.length (m.ways.length + cap1)) vh vr)) (drop_get rfl) (by omega) inv1 (by kernel_rfl) (by kernel_rfl) rfl (fun X hX => ?_) fun inv2 => ?_
    · have hx := msn_cells hX; unfold msnCells; obtain ⟨c0, c1, c2, c3, c4, c5, c6, c7, c8, c9, c10⟩ := hx; go_simp
    simp only [Act.put, List.setIfInBounds_toArray, List.set_cons_zero, List.set_cons_succ]
    have hS0 : Has w3.drew w.heap.size (msnCells m (.slice a1 m.ways.length (m.ways.length + cap1)) vh vr) 26 := hbx
    have hB0 : Below w3.heap.size w3 w3.drew := Below.drew (Below.refl _ _)
    have hz0 := hB0.size
    generalize w3.drew = X0 at hS0 hB0 hz0 ⊢
    clear inv0 inv1 inv2 hH
    refine sched_all (rs := [2, 3]) (by kernel_rfl) (by simp) hS0 (by simp) (fun i hi' => ?_)
    simp only [List.mem_cons, List.not_mem_nil, or_false] at hi'
    rcases hi' with rfl | rfl
    · refine okOp_run (drop_get rfl) rfl (v := .pointer (some ⟨X0.heap.size, 0, none⟩)) (w' := X0.alloc (.cells #[.slice none 0 0, .slice none 0 0, .int .i64 0, .slice none 0 0, .int .i64 0, .int .i64 0, .int .i64 0, .int .i64 0, .int .i64 0, .int .i64 0, .int .i64 0] 26)) (by go_simp) ?_
      simp only [Act.put, List.setIfInBounds_toArray, List.set_cons_zero, List.set_cons_succ]
      have hN0 := Has.new X0 #[.slice none 0 0, .slice none 0 0, .int .i64 0, .slice none 0 0, .int .i64 0, .int .i64 0, .int .i64 0, .int .i64 0, .int .i64 0, .int .i64 0, .int .i64 0] 26
      have hS1 := hS0.below ((Below.refl X0.heap.size X0).alloc (Nat.le_refl _) (.cells #[.slice none 0 0, .slice none 0 0, .int .i64 0, .slice none 0 0, .int .i64 0, .int .i64 0, .int .i64 0, .int .i64 0, .int .i64 0, .int .i64 0, .int .i64 0] 26)) hS0.lt
      have hB1 := hB0.alloc (by omega) (.cells #[.slice none 0 0, .slice none 0 0, .int .i64 0, .slice none 0 0, .int .i64 0, .int .i64 0, .int .i64 0, .int .i64 0, .int .i64 0, .int .i64 0, .int .i64 0] 26)
      have hz1 : X0.heap.size < (X0.alloc (.cells #[.slice none 0 0, .slice none 0 0, .int .i64 0, .slice none 0 0, .int .i64 0, .int .i64 0, .int .i64 0, .int .i64 0, .int .i64 0, .int .i64 0, .int .i64 0] 26)).heap.size := by simp
      generalize X0.alloc (.cells #[.slice none 0 0, .slice none 0 0, .int .i64 0, .slice none 0 0, .int .i64 0, .int .i64 0, .int .i64 0, .int .i64 0, .int .i64 0, .int .i64 0, .int .i64 0] 26) = X1 at hN0 hS1 hB1 hz1 ⊢
      refine sched_all (rs := [3]) (by kernel_rfl) (by simp) hS1 (by simp) (fun i hi' => ?_)
      simp only [List.mem_cons, List.not_mem_nil, or_false] at hi'
      subst hi'
      refine okOp_run (drop_get rfl) rfl (v := .pointer (some ⟨X1.heap.size, 0, none⟩)) (w' := X1.alloc (.cells #[.slice none 0 0, .slice none 0 0, .int .i64 0, .slice none 0 0, .int .i64 0, .int .i64 0, .int .i64 0, .int .i64 0, .int .i64 0, .int .i64 0, .int .i64 0] 26)) (by go_simp) ?_
      simp only [Act.put, List.setIfInBounds_toArray, List.set_cons_zero, List.set_cons_succ]
      have hN1 := Has.new X1 #[.slice none 0 0, .slice none 0 0, .int .i64 0, .slice none 0 0, .int .i64 0, .int .i64 0, .int .i64 0, .int .i64 0, .int .i64 0, .int .i64 0, .int .i64 0] 26
      have hM1 := hN0.below ((Below.refl X1.heap.size X1).alloc (Nat.le_refl _) (.cells #[.slice none 0 0, .slice none 0 0, .int .i64 0, .slice none 0 0, .int .i64 0, .int .i64 0, .int .i64 0, .int .i64 0, .int .i64 0, .int .i64 0, .int .i64 0] 26)) hN0.lt
      have hS2 := hS1.below ((Below.refl X1.heap.size X1).alloc (Nat.le_refl _) (.cells #[.slice none 0 0, .slice none 0 0, .int .i64 0, .slice none 0 0, .int .i64 0, .int .i64 0, .int .i64 0, .int .i64 0, .int .i64 0, .int .i64 0, .int .i64 0] 26)) hS1.lt
      have hB2 := hB1.alloc (by omega) (.cells #[.slice none 0 0, .slice none 0 0, .int .i64 0, .slice none 0 0, .int .i64 0, .int .i64 0, .int .i64 0, .int .i64 0, .int .i64 0, .int .i64 0, .int .i64 0] 26)
      have hl2 := hS0.lt
      generalize X1.alloc (.cells #[.slice none 0 0, .slice none 0 0, .int .i64 0, .slice none 0 0, .int .i64 0, .int .i64 0, .int .i64 0, .int .i64 0, .int .i64 0, .int .i64 0, .int .i64 0] 26) = X2 at hN1 hM1 hS2 hB2 ⊢
      refine sched_all (rs := [4]) (by kernel_rfl) (by simp) hS2 (by simp) (fun i hi' => ?_)
      simp only [List.mem_cons, List.not_mem_nil, or_false] at hi'
      subst hi'
      refine okOp_row (drop_get rfl) rfl rfl (g := X0.heap.size) (cells := (msnCells m (.slice a1 m.ways.length (m.ways.length + cap1)) vh vr)) rfl rfl hM1 (by kernel_rfl) rfl hone ?_
      simp only [Act.put, List.setIfInBounds_toArray, List.set_cons_zero, List.set_cons_succ]
      have hP := Has.put (cells := (msnCells m (.slice a1 m.ways.length (m.ways.length + cap1)) vh vr)) hM1
      have hO := Has.keep (cells := (msnCells m (.slice a1 m.ways.length (m.ways.length + cap1)) vh vr)) (C := X0.heap.size) hN1 (by omega)
      have hS3 := Has.keep (cells := (msnCells m (.slice a1 m.ways.length (m.ways.length + cap1)) vh vr)) (C := X0.heap.size) hS2 (by omega)
      have hB3 := Below.setRow hB2 (C := X0.heap.size) (by omega) (msnCells m (.slice a1 m.ways.length (m.ways.length + cap1)) vh vr)
      generalize X2.setRow X0.heap.size (msnCells m (.slice a1 m.ways.length (m.ways.length + cap1)) vh vr) = X3 at hP hO hS3 hB3 ⊢
      refine sched_done (by kernel_rfl) hS3 ?_
      simp only [List.drop_succ_cons, List.drop_zero]
      refine wpListIn_row rfl rfl (g := X1.heap.size) (cells := (msnCells m (.slice a1 m.ways.length (m.ways.length + cap1)) vh vr)) rfl rfl hO (by kernel_rfl) rfl hone ?_
      have hP2 := Has.put (cells := (msnCells m (.slice a1 m.ways.length (m.ways.length + cap1)) vh vr)) hO
      have hP1 := Has.keep (cells := (msnCells m (.slice a1 m.ways.length (m.ways.length + cap1)) vh vr)) (C := X1.heap.size) hP (by omega)
      have hB4 := Below.setRow hB3 (C := X1.heap.size) (by omega) (msnCells m (.slice a1 m.ways.length (m.ways.length + cap1)) vh vr)
      generalize X3.setRow X1.heap.size (msnCells m (.slice a1 m.ways.length (m.ways.length + cap1)) vh vr) = X4 at hP1 hP2 hB4 ⊢
      gi_wp2
      go_meet
      exact ⟨_, _, rfl, rfl, by omega, by omega, by omega, hP1, hP2, hB4⟩
    · refine okOp_run (drop_get rfl) rfl (v := .pointer (some ⟨X0.heap.size, 0, none⟩)) (w' := X0.alloc (.cells #[.slice none 0 0, .slice none 0 0, .int .i64 0, .slice none 0 0, .int .i64 0, .int .i64 0, .int .i64 0, .int .i64 0, .int .i64 0, .int .i64 0, .int .i64 0] 26)) (by go_simp) ?_
      simp only [Act.put, List.setIfInBounds_toArray, List.set_cons_zero, List.set_cons_succ]
      have hN0 := Has.new X0 #[.slice none 0 0, .slice none 0 0, .int .i64 0, .slice none 0 0, .int .i64 0, .int .i64 0, .int .i64 0, .int .i64 0, .int .i64 0, .int .i64 0, .int .i64 0] 26
      have hS1 := hS0.below ((Below.refl X0.heap.size X0).alloc (Nat.le_refl _) (.cells #[.slice none 0 0, .slice none 0 0, .int .i64 0, .slice none 0 0, .int .i64 0, .int .i64 0, .int .i64 0, .int .i64 0, .int .i64 0, .int .i64 0, .int .i64 0] 26)) hS0.lt
      have hB1 := hB0.alloc (by omega) (.cells #[.slice none 0 0, .slice none 0 0, .int .i64 0, .slice none 0 0, .int .i64 0, .int .i64 0, .int .i64 0, .int .i64 0, .int .i64 0, .int .i64 0, .int .i64 0] 26)
      have hz1 : X0.heap.size < (X0.alloc (.cells #[.slice none 0 0, .slice none 0 0, .int .i64 0, .slice none 0 0, .int .i64 0, .int .i64 0, .int .i64 0, .int .i64 0, .int .i64 0, .int .i64 0, .int .i64 0] 26)).heap.size := by simp
      generalize X0.alloc (.cells #[.slice none 0 0, .slice none 0 0, .int .i64 0, .slice none 0 0, .int .i64 0, .int .i64 0, .int .i64 0, .int .i64 0, .int .i64 0, .int .i64 0, .int .i64 0] 26) = X1 at hN0 hS1 hB1 hz1 ⊢
      refine sched_all (rs := [2]) (by kernel_rfl) (by simp) hS1 (by simp) (fun i hi' => ?_)
      simp only [List.mem_cons, List.not_mem_nil, or_false] at hi'
      subst hi'
      refine okOp_run (drop_get rfl) rfl (v := .pointer (some ⟨X1.heap.size, 0, none⟩)) (w' := X1.alloc (.cells #[.slice none 0 0, .slice none 0 0, .int .i64 0, .slice none 0 0, .int .i64 0, .int .i64 0, .int .i64 0, .int .i64 0, .int .i64 0, .int .i64 0, .int .i64 0] 26)) (by go_simp) ?_
      simp only [Act.put, List.setIfInBounds_toArray, List.set_cons_zero, List.set_cons_succ]
      have hN1 := Has.new X1 #[.slice none 0 0, .slice none 0 0, .int .i64 0, .slice none 0 0, .int .i64 0, .int .i64 0, .int .i64 0, .int .i64 0, .int .i64 0, .int .i64 0, .int .i64 0] 26
      have hM1 := hN0.below ((Below.refl X1.heap.size X1).alloc (Nat.le_refl _) (.cells #[.slice none 0 0, .slice none 0 0, .int .i64 0, .slice none 0 0, .int .i64 0, .int .i64 0, .int .i64 0, .int .i64 0, .int .i64 0, .int .i64 0, .int .i64 0] 26)) hN0.lt
      have hS2 := hS1.below ((Below.refl X1.heap.size X1).alloc (Nat.le_refl _) (.cells #[.slice none 0 0, .slice none 0 0, .int .i64 0, .slice none 0 0, .int .i64 0, .int .i64 0, .int .i64 0, .int .i64 0, .int .i64 0, .int .i64 0, .int .i64 0] 26)) hS1.lt
      have hB2 := hB1.alloc (by omega) (.cells #[.slice none 0 0, .slice none 0 0, .int .i64 0, .slice none 0 0, .int .i64 0, .int .i64 0, .int .i64 0, .int .i64 0, .int .i64 0, .int .i64 0, .int .i64 0] 26)
      have hl2 := hS0.lt
      generalize X1.alloc (.cells #[.slice none 0 0, .slice none 0 0, .int .i64 0, .slice none 0 0, .int .i64 0, .int .i64 0, .int .i64 0, .int .i64 0, .int .i64 0, .int .i64 0, .int .i64 0] 26) = X2 at hN1 hM1 hS2 hB2 ⊢
      refine sched_all (rs := [4]) (by kernel_rfl) (by simp) hS2 (by simp) (fun i hi' => ?_)
      simp only [List.mem_cons, List.not_mem_nil, or_false] at hi'
      subst hi'
      refine okOp_row (drop_get rfl) rfl rfl (g := X1.heap.size) (cells := (msnCells m (.slice a1 m.ways.length (m.ways.length + cap1)) vh vr)) rfl rfl hN1 (by kernel_rfl) rfl hone ?_
      simp only [Act.put, List.setIfInBounds_toArray, List.set_cons_zero, List.set_cons_succ]
      have hP := Has.put (cells := (msnCells m (.slice a1 m.ways.length (m.ways.length + cap1)) vh vr)) hN1
      have hO := Has.keep (cells := (msnCells m (.slice a1 m.ways.length (m.ways.length + cap1)) vh vr)) (C := X1.heap.size) hM1 (by omega)
      have hS3 := Has.keep (cells := (msnCells m (.slice a1 m.ways.length (m.ways.length + cap1)) vh vr)) (C := X1.heap.size) hS2 (by omega)
      have hB3 := Below.setRow hB2 (C := X1.heap.size) (by omega) (msnCells m (.slice a1 m.ways.length (m.ways.length + cap1)) vh vr)
      generalize X2.setRow X1.heap.size (msnCells m (.slice a1 m.ways.length (m.ways.length + cap1)) vh vr) = X3 at hP hO hS3 hB3 ⊢
      refine sched_done (by kernel_rfl) hS3 ?_
      simp only [List.drop_succ_cons, List.drop_zero]
      refine wpListIn_row rfl rfl (g := X0.heap.size) (cells := (msnCells m (.slice a1 m.ways.length (m.ways.length + cap1)) vh vr)) rfl rfl hO (by kernel_rfl) rfl hone ?_
      have hP2 := Has.put (cells := (msnCells m (.slice a1 m.ways.length (m.ways.length + cap1)) vh vr)) hO
      have hP1 := Has.keep (cells := (msnCells m (.slice a1 m.ways.length (m.ways.length + cap1)) vh vr)) (C := X0.heap.size) hP (by omega)
      have hB4 := Below.setRow hB3 (C := X0.heap.size) (by omega) (msnCells m (.slice a1 m.ways.length (m.ways.length + cap1)) vh vr)
      generalize X3.setRow X0.heap.size (msnCells m (.slice a1 m.ways.length (m.ways.length + cap1)) vh vr) = X4 at hP1 hP2 hB4 ⊢
      gi_wp2
      go_meet
      exact ⟨_, _, rfl, rfl, by omega, by omega, by omega, hP1, hP2, hB4⟩
  case rest =>
    obtain ⟨x, y, rfl, rfl, hxy, hx, hy, HX, HY, hC⟩ := hcut
    have H4 := H3'.out.below hC z3
    have B4 := B3.trans (hC.mono B3.size)
    have P4 := P3'.out.below hC P3'.out.lt
    have z4 := H4.lt
    have zx := HX.lt
    have zy := HY.lt
    have zp := P4.lt
    obtain ⟨b1, o, cap, hvw, hbb, hcc⟩ := HM.out.1.cells h0
    simp only [Value.slice.injEq, true_and] at hvw
    obtain ⟨rfl, hcap⟩ := hvw
    have hA := (Below.refl wc.heap.size wc).alloc (Nat.le_refl _) (.cells #[] 40)
    have hcl := flat_cells (W := wc.alloc (.cells #[] 40)) (b := b1) (o := o) (l := m.ways) (fun j hj => by
      have e : ∀ q, (wc.alloc (.cells #[] 40)).cell? ⟨b1, q, none⟩ = w.cell? ⟨b1, q, none⟩ := fun q => ((hA.mono (by omega) : Below w.heap.size wc _).cell (p := ⟨b1, q, none⟩) hbb).trans (B4.cell (p := ⟨b1, q, none⟩) hbb)
      rw [e, e, e, e, e]
      exact hcc j hj)
    have hown0 := World.ownsRow_made (size := 5) (e := 40) wc #[] 0 (Nat.le_refl _) (by unfold maxLen; omega) (by simp)
    obtain ⟨i0, hi0, hz0', hz1', hz2'⟩ := info_parts wayInfo
    have HC := Lib.hid (And.intro hcc (And.intro hcl (And.intro hown0 hA)))
    have H4' := Lib.hid H4
    have P4' := Lib.hid P4
    have HX' := Lib.hid HX
    have HY' := Lib.hid HY
    have c0 : wc.cell? ⟨w.heap.size, 0, none⟩ = some (.slice (some ⟨b1, o, none⟩) m.ways.length (m.ways.length + cap1)) := H4.cell (i := 0) rfl
    clear H4 P4 HX HY hcc hcl hown0 hA hcap hone
    go_wp2_with (at_builtin; refine wpList_append_own _ rfl _ _ 22 rfl wc.heap.size 40 i0 (.agg #[.int .i64 0, .int .i64 0, .int .i64 0, .int .i64 0, .int .i64 0]) 5 40 Try.underlying22 hi0 hz0' hz1' hz2' rfl (by decide) _ _ _ rfl HC.out.2.2.1 ⟨b1, o, none⟩ m.ways.length (m.ways.length + cap1) (flat m.ways) rfl (flat_len _) HC.out.2.1 (flat_one _) (by unfold maxLen; omega) (by omega) (by simp) ?_; intro v' w5 hown' hgrow _; rw [Nat.zero_add, List.nil_append] at hown'; obtain ⟨g, cap5, rfl⟩ := row_shape hown' h0; have hb5 : Below wc.heap.size wc w5 := HC.out.2.2.2.grown hgrow (by simp) (fun j ej => (HC.out.2.2.1.lt j ej).1); have HX5 := HX'.out.below hb5 zx; have x0 := cells_cell HX5 (i := 0) rfl; have f0 := cells_free HX5 0; have HY5 := HY'.out.below hb5 zy; have H5 := H4'.out.below hb5 z4; have P5 := P4'.out.below hb5 zp; have z5 := hb5.size; have hgl := row_lt hown'; have HG := Lib.hid (And.intro hown' (And.intro hb5 (And.intro HX5 (And.intro HY5 (And.intro H5 P5))))); clear hown' hb5 HX5 HY5 H5 P5 hgrow c0)
    obtain ⟨hown, hb5, HX5, HY5, H5, P5⟩ := HG.out
    have HX6 : Has (w5.setCell ⟨x, 0, none⟩ (.slice (some ⟨g, 0, none⟩) m.ways.length cap5)) x (msnCells m (.slice (some ⟨g, 0, none⟩) m.ways.length cap5) vh vr) 26 := (HX5.set 0 _ : _)
    have HY6 : Has (w5.setCell ⟨x, 0, none⟩ (.slice (some ⟨g, 0, none⟩) m.ways.length cap5)) y (msnCells m (.slice (some ⟨b1, o, none⟩) m.ways.length (m.ways.length + cap1)) vh vr) 26 := (Below.heap_setCell _ ⟨x, 0, none⟩ _ _ (by simp; omega)).trans HY5
    have H6 : Has (w5.setCell ⟨x, 0, none⟩ (.slice (some ⟨g, 0, none⟩) m.ways.length cap5)) w.heap.size (msnCells m (.slice (some ⟨b1, o, none⟩) m.ways.length (m.ways.length + cap1)) vh vr) 26 := (Below.heap_setCell _ ⟨x, 0, none⟩ _ _ (by simp; omega)).trans H5
    have P6 : Has (w5.setCell ⟨x, 0, none⟩ (.slice (some ⟨g, 0, none⟩) m.ways.length cap5)) (w.heap.size + 1) #[.int .i64 dx, .int .i64 dy] 38 := (Below.heap_setCell _ ⟨x, 0, none⟩ _ _ (by simp; have := P3'.out.lt; omega)).trans P5
    have hown6 := row_block hown (Below.heap_setCell w5 ⟨x, 0, none⟩ (.slice (some ⟨g, 0, none⟩) m.ways.length cap5) g (by simp; omega))
    have B6 : Below w.heap.size w (w5.setCell ⟨x, 0, none⟩ (.slice (some ⟨g, 0, none⟩) m.ways.length cap5)) := (B4.trans (hb5.mono (by omega))).setCell (p := ⟨x, 0, none⟩) (by simp; omega) _
    have z6 : wc.heap.size ≤ (w5.setCell ⟨x, 0, none⟩ (.slice (some ⟨g, 0, none⟩) m.ways.length cap5)).heap.size := by simpa using z5
    generalize w5.setCell ⟨x, 0, none⟩ (.slice (some ⟨g, 0, none⟩) m.ways.length cap5) = w6 at HX6 HY6 H6 P6 hown6 B6 z6 ⊢
    have HX6' := Lib.hid HX6
    have HY6' := Lib.hid HY6
    have H6' := Lib.hid H6
    have P6' := Lib.hid P6
    have HO6 := Lib.hid hown6
    have HB6 := Lib.hid B6
    have c0 := HX6.cell (i := 0) rfl
    clear hown hb5 HX5 HY5 H5 P5 HX6 HY6 H6 P6 hown6 B6 HG x0 f0
    go_wp2
    go_loopw [58] (fun i wr => ∃ (k : Nat) (xs : List Value), k ≤ m.ways.length ∧ i = .int .i64 (k : Int) ∧ wr.ownsRow wc.heap.size 40 5 (.slice (some ⟨g, 0, none⟩) m.ways.length cap5) m.ways.length xs ∧ MvTo m.ways dx dy k xs ∧ Below wc.heap.size w6 wr) (fun i _ => m.ways.length - (intOf i).toNat)
    case atStart => exact ⟨0, flat m.ways, by omega, rfl, HO6.out, MvTo.zero _ _ _, Below.refl _ _⟩
    case round =>
      obtain ⟨k, xs, hk, rfl, hrow, hmv, hZ⟩ := hrel
      have HXr := HX6'.out.below hZ zx
      have HYr := HY6'.out.below hZ zy
      have Hr := H6'.out.below hZ z4
      have Pr := P6'.out.below hZ zp
      have Br := HB6.out.trans (hZ.mono (by omega))
      have hzr := hZ.size
      have hgl2 := row_lt hrow
      clear c0
      by_cases hlt : k < m.ways.length
      · obtain ⟨m1, m2, m3, m4, m5⟩ := hmv k hlt
        rw [if_neg (Nat.lt_irrefl k)] at m1 m2
        have hxl : xs.length = m.ways.length * 5 := hrow.1
        have nx := Lib.hid (hmv.next hlt hxl)
        have cx := (hrow.cellAt (k * 5) (by omega)).trans m1
        have hr2 := (hrow.stored (k * 5) (.int .i64 (wrap64 ((wy m.ways k).x + dx)))).1
        have cy : (xs.set (k * 5) (.int .i64 (wrap64 ((wy m.ways k).x + dx))))[k * 5 + 1]? = some (.int .i64 (wy m.ways k).y) := by rw [List.getElem?_set_ne (by omega)]; exact m2
        have l0 := Low.fact (HXr.cell (i := 0) rfl : wr.cell? ⟨x, 0, none⟩ = some (.slice (some ⟨g, 0, none⟩) m.ways.length cap5))
        have lp := Low.fact (Pr.cell (i := 0) rfl : wr.cell? ⟨w.heap.size + 1, 0, none⟩ = some (.int .i64 dx))
        have lx := Low.fact cx
        have dk : decide ((k : Int) < (m.ways.length : Int)) = true := by simp; omega
        have kl : (k : Int) < m.ways.length := by omega
        have k0 : (0 : Int) ≤ k := by omega
        have HP := Lib.hid (And.intro hrow (And.intro HXr (And.intro Pr (And.intro cy hZ))))
        have zxr := HXr.lt
        have zpr := Pr.lt
        simp only [mvW] at nx
        generalize (wy m.ways k).x = px at *
        generalize (wy m.ways k).y = py at *
        clear hrow hmv HXr HYr Hr Pr Br m1 m2 m3 m4 m5 hr2 cx cy hZ
        go_wp2
        (refine (wpIn_wide (n := 9)).1 ?_; refine wpIn_region_low_tail (lets_wide _) 13 (by kernel_rfl) (by kernel_rfl) (by kernel_rfl) ?_; simp only [List.take_succ_cons, List.take_zero, List.drop_succ_cons, List.drop_zero]; (iterate 13 (apply quiet_want; (case hw => rfl); (case hval => (intro w1 hw1; have hcx := Low.cells hw1; simp only [Oper.quietAt]; go_simp; first | done | (first | fail) | rfl | exact ⟨rfl, rfl⟩)); simp only [Act.put, List.setIfInBounds_toArray, List.set_cons_zero, List.set_cons_succ])); refine wpQuiet_nil ?_; intro w2 hw2)
        obtain ⟨hrow, HXr, Pr, cy, hZ⟩ := HP.out
        have hrow2 := row_block hrow (hw2.out.block g hgl2.2)
        have wx := (hrow2.cellAt (k * 5) (by omega))
        have wf := hrow2.frozenAt (k * 5)
        have hex : ∃ u, xs[k * 5]? = some u := ⟨_, List.getElem?_eq_getElem (by omega)⟩
        obtain ⟨u0, hu0⟩ := hex
        rw [hu0] at wx
        have hs2 := (hrow2.stored (k * 5) (.int .i64 (wrap64 (px + dx)))).1
        have cy2 := (hs2.cellAt (k * 5 + 1) (by omega)).trans cy
        have HX2 : Has (w2.setCell ⟨g, k * 5, none⟩ (.int .i64 (wrap64 (px + dx)))) x (msnCells m (.slice (some ⟨g, 0, none⟩) m.ways.length cap5) vh vr) 26 := (Below.heap_setCell _ ⟨g, k * 5, none⟩ _ _ (by simp; omega)).trans ((hw2.out.block x zxr).trans HXr)
        have P2 : Has (w2.setCell ⟨g, k * 5, none⟩ (.int .i64 (wrap64 (px + dx)))) (w.heap.size + 1) #[.int .i64 dx, .int .i64 dy] 38 := (Below.heap_setCell _ ⟨g, k * 5, none⟩ _ _ (by simp; omega)).trans ((hw2.out.block _ zpr).trans Pr)
        have hZ2 := hZ.trans ((hw2.out.mono (by omega) : Below wc.heap.size wr w2).setCell (p := ⟨g, k * 5, none⟩) (by simp; omega) (.int .i64 (wrap64 (px + dx))))
        have zs2 : (w2.setCell ⟨g, k * 5, none⟩ (.int .i64 (wrap64 (px + dx)))).heap.size = w2.heap.size := by simp
        have HW := Lib.hid (And.intro hs2 (And.intro cy2 (And.intro HX2 (And.intro P2 hZ2))))
        have hzw := hw2.out.size
        clear hrow HXr Pr cy hZ hrow2 hs2 cy2 HX2 P2 hZ2 hw2 l0 lp lx HP hu0
        gi_wp2
        obtain ⟨hs2, cy2, HX2, P2, hZ2⟩ := HW.out
        generalize w2.setCell ⟨g, k * 5, none⟩ (.int .i64 (wrap64 (px + dx))) = w8 at hs2 cy2 HX2 P2 hZ2 zs2 ⊢
        have l0 := Low.fact (HX2.cell (i := 0) rfl : w8.cell? ⟨x, 0, none⟩ = some (.slice (some ⟨g, 0, none⟩) m.ways.length cap5))
        have lp := Low.fact (P2.cell (i := 1) rfl : w8.cell? ⟨w.heap.size + 1, 1, none⟩ = some (.int .i64 dy))
        have lx := Low.fact cy2
        have HP := Lib.hid (And.intro hs2 hZ2)
        have hgl3 := row_lt hs2
        clear hs2 cy2 HX2 P2 hZ2 HW wx wf
        generalize w2 = wold at *
        go_wp2
        (refine (wpIn_wide (n := 9)).1 ?_; refine wpIn_region_low_tail (lets_wide _) 13 (by kernel_rfl) (by kernel_rfl) (by kernel_rfl) ?_; simp only [List.take_succ_cons, List.take_zero, List.drop_succ_cons, List.drop_zero]; (iterate 13 (apply quiet_want; (case hw => rfl); (case hval => (intro w1 hw1; have hcx := Low.cells hw1; simp only [Oper.quietAt]; go_simp; first | done | (first | fail) | rfl | exact ⟨rfl, rfl⟩)); simp only [Act.put, List.setIfInBounds_toArray, List.set_cons_zero, List.set_cons_succ])); refine wpQuiet_nil ?_; intro w2 hw2)
        obtain ⟨hrow, hZ⟩ := HP.out
        have hrow2 := row_block hrow (hw2.out.block g hgl3.2)
        have hxl2 : (xs.set (k * 5) (.int .i64 (wrap64 (px + dx)))).length = m.ways.length * 5 := hrow.1
        obtain ⟨u1, hu1⟩ : ∃ u, (xs.set (k * 5) (.int .i64 (wrap64 (px + dx))))[k * 5 + 1]? = some u := ⟨_, List.getElem?_eq_getElem (by omega)⟩
        have wx := (hrow2.cellAt (k * 5 + 1) (by omega)).trans hu1
        have wf := hrow2.frozenAt (k * 5 + 1)
        have hs3 := (hrow2.stored (k * 5 + 1) (.int .i64 (wrap64 (py + dy)))).1
        have hZ3 := hZ.trans ((hw2.out.mono (by omega) : Below wc.heap.size w8 w2).setCell (p := ⟨g, k * 5 + 1, none⟩) (by simp; omega) (.int .i64 (wrap64 (py + dy))))
        have HW := Lib.hid (And.intro hs3 hZ3)
        clear hrow hZ hrow2 hs3 hZ3 hw2 l0 lp lx HP hu1
        gi_wp2
        go_wp2
        go_roundw
        case rel => exact ⟨k + 1, _, by omega, by go_num, HW.out.1, nx.out, HW.out.2⟩
        case measure => simp [intOf]; omega
      · obtain rfl : k = m.ways.length := by omega
        obtain ⟨c, rfl, hways⟩ := hmv.ways hrow HM.out.1.1
        have dk : decide ((m.ways.length : Int) < (m.ways.length : Int)) = false := by simp
        have HMr := Lib.hid ((HM.out.below Br).mono Br.size)
        have hMm : MsnAt wr.heap.size wr (mvM m dx dy) (.slice (some ⟨g, 0, none⟩) m.ways.length (m.ways.length + c)) vh vr := ⟨hways, HMr.out.2.1, HMr.out.2.2⟩
        have HMm := Lib.hid hMm
        have HXr' := Lib.hid HXr
        have HYr' := Lib.hid HYr
        have zxr := HXr.lt
        have zyr := HYr.lt
        have B7 := Br
        have H7' := Lib.hid Hr
        have z7 := Hr.lt
        clear c0 hways hMm hmv hrow Pr
        obtain ⟨c0, c1, c2, c3, c4, c5, c6, c7, c8, c9, c10⟩ := msn_cells (m := m) (vw := .slice (some ⟨b1, o, none⟩) m.ways.length (m.ways.length + cap1)) (vh := vh) (vr := vr) Hr
        have hl1 := fun w1 h => leg_all m (.slice (some ⟨b1, o, none⟩) m.ways.length (m.ways.length + cap1)) vh vr a b w1 h
        have hl2 := fun w1 h => leg_all (mvM m dx dy) (.slice (some ⟨g, 0, none⟩) m.ways.length (m.ways.length + c)) vh vr a b w1 h
        obtain ⟨sp, hsp⟩ : ∃ sp, (if m.speed + (f : Int) < 20000 then m.speed + (f : Int) else 20000) = sp := ⟨_, rfl⟩
        have hl3 := fun w1 h => leg_all (fastM m sp) (.slice (some ⟨b1, o, none⟩) m.ways.length (m.ways.length + cap1)) vh vr a b w1 h
        clear HXr HYr Hr Br hZ
        generalize wr = w7 at *
        cases hv : validB m
        · rw [leg_bad _ _ hv] at hl1
          have HL := Lib.hid hl1
          clear hl1 hl2 hl3 hv
          unfold msnCells at HL
          go_wp2_with fail; refine (HL.out _ ((HM.out.below B7).mono B7.size)).mono ?_; rintro e w8 ⟨rfl, hb8⟩; have B8 := B7.trans (hb8.mono B7.size); have H8 := H7'.out.below hb8 z7; have z8 := H8.lt; have H8' := Lib.hid H8; obtain ⟨c0, c1, c2, c3, c4, c5, c6, c7, c8, c9, c10⟩ := msn_cells (m := m) (vw := .slice (some ⟨b1, o, none⟩) m.ways.length (m.ways.length + cap1)) (vh := vh) (vr := vr) H8; clear hb8 H8
          go_wp2
          go_ret
          exact ⟨rfl, B8⟩
        · have V := (validB_iff m).1 hv
          have V4 := V.leg
          have hs1 : m.speed ≤ sp := by rw [← hsp]; obtain ⟨_, _, _⟩ := V4; split <;> omega
          have hs2 : sp ≤ 20000 := by rw [← hsp]; split <;> omega
          have hfv := fast_valid V (s := sp) hs1 hs2
          have hfl := fast_leg V (s := sp) hs1 ha2 hb2
          rw [leg_nat hv ha2 hb2] at hl1
          rw [leg_nat hfv (show a < (fastM m _).ways.length from ha2) (show b < (fastM m _).ways.length from hb2), hfl.1] at hl3
          have e1 : decide (tLeg (fastM m sp) a b ≤ tLeg m a b) = true := decide_eq_true hfl.2.1
          have e2 : decide (gLeg (fastM m sp) a b ≤ gLeg m a b) = true := decide_eq_true hfl.2.2
          have l2 : (mvM m dx dy).ways.length = m.ways.length := by simp [mvM]
          have f1 : IntKind.i64.wrap (f : Int) = f := IntWalk.i64_in _ (by omega)
          have f2 : IntKind.i64.wrap (m.speed + (f : Int)) = m.speed + (f : Int) := IntWalk.i64_in _ (by obtain ⟨_, _, _⟩ := V4; omega)
          generalize tLeg (fastM m sp) a b = tf at *
          generalize gLeg (fastM m sp) a b = gf at *
          cases hv2 : validB (mvM m dx dy)
          · rw [leg_bad _ _ hv2] at hl2
            generalize dLeg m a b = d0 at *
            generalize tLeg m a b = t0 at *
            generalize gLeg m a b = g0 at *
            have HL := Lib.hid (And.intro hl1 (And.intro hl2 hl3))
            clear hl1 hl2 hl3 hv hfv hfl V V4 hv2 l2
            unfold msnCells at HL
            go_wp2_with fail; refine (HL.out.1 _ ((HM.out.below B7).mono B7.size)).mono ?_; rintro e w8 ⟨rfl, hb8⟩; have B8 := B7.trans (hb8.mono B7.size); have H8 := H7'.out.below hb8 z7; have z8 := H8.lt; have H8' := Lib.hid H8; obtain ⟨c0, c1, c2, c3, c4, c5, c6, c7, c8, c9, c10⟩ := msn_cells (m := m) (vw := .slice (some ⟨b1, o, none⟩) m.ways.length (m.ways.length + cap1)) (vh := vh) (vr := vr) H8; have HX8 := HXr'.out.below hb8 zxr; have HY8 := HYr'.out.below hb8 zyr; have HMm8 := Lib.hid ((HMm.out.below hb8).mono hb8.size); clear hb8 H8
            clear c0 c1 c2 c3 c4 c5 c6 c7 c8 c9 c10
            obtain ⟨c0, c1, c2, c3, c4, c5, c6, c7, c8, c9, c10⟩ := msn_cells (m := mvM m dx dy) (vw := .slice (some ⟨g, 0, none⟩) m.ways.length (m.ways.length + c)) (vh := vh) (vr := vr) HX8
            have zy8 := HY8.lt
            have HY8' := Lib.hid HY8
            clear HX8 HY8
            go_wp2_with fail
            refine (HL.out.2.1 _ HMm8.out).mono ?_
            rintro e wN ⟨rfl, hb9⟩
            have BN := B8.trans (hb9.mono B8.size)
            have HYN := HY8'.out.below hb9 zy8
            have HN := H8'.out.below hb9 z8
            clear c0 c1 c2 c3 c4 c5 c6 c7 c8 c9 c10 hb9
            have yc : wN.cell? ⟨y, 4, none⟩ = some (.int .i64 m.speed) := HYN.cell (i := 4) rfl
            have yf := cells_free HYN 4
            have c4 : wN.cell? ⟨w.heap.size, 4, none⟩ = some (.int .i64 m.speed) := HN.cell (i := 4) rfl
            have HY9 := (HYN.set 4 (.int .i64 sp) : Has (wN.setCell ⟨y, 4, none⟩ (.int .i64 sp)) y (msnCells (fastM m sp) (.slice (some ⟨b1, o, none⟩) m.ways.length (m.ways.length + cap1)) vh vr) 26)
            have B9 := BN.setCell (p := ⟨y, 4, none⟩) (by simp; omega) (.int .i64 sp)
            have HY9' := Lib.hid HY9
            have HB9 := Lib.hid B9
            clear HY9 B9 HYN HN BN
            go_upto_region 19 with fail
            try rw [hsp]
            generalize wN.setCell ⟨y, 4, none⟩ (.int .i64 sp) = w9 at HY9' HB9 ⊢
            clear yc yf c4
            obtain ⟨c0, c1, c2, c3, c4, c5, c6, c7, c8, c9, c10⟩ := msn_cells (m := fastM m sp) (vw := .slice (some ⟨b1, o, none⟩) m.ways.length (m.ways.length + cap1)) (vh := vh) (vr := vr) HY9'.out
            go_wp2_with fail
            refine (HL.out.2.2 _ ((HM.out.below HB9.out).mono HB9.out.size)).mono ?_
            rintro e wA ⟨rfl, hb9⟩
            have BA := Lib.hid (HB9.out.trans (hb9.mono HB9.out.size))
            clear hb9
            go_wp2
            go_ret
            exact ⟨rfl, BA.out⟩
          · have V2 := (validB_iff _).1 hv2
            have hd : dLeg (mvM m dx dy) a b = dLeg m a b := leg_mv V V2 ha2 hb2
            have ht : tLeg (mvM m dx dy) a b = tLeg m a b := by show lastsV m.speed (dLeg (mvM m dx dy) a b) = _; rw [hd]; rfl
            have hg : gLeg (mvM m dx dy) a b = gLeg m a b := by show growthV m.speed m.part m.flow (dLeg (mvM m dx dy) a b) = _; rw [hd]; rfl
            rw [leg_nat hv2 (show a < (mvM m dx dy).ways.length by rw [l2]; exact ha2) (show b < (mvM m dx dy).ways.length by rw [l2]; exact hb2), hd, ht, hg] at hl2
            clear V2 hd ht hg
            generalize dLeg m a b = d0 at *
            generalize tLeg m a b = t0 at *
            generalize gLeg m a b = g0 at *
            have HL := Lib.hid (And.intro hl1 (And.intro hl2 hl3))
            clear hl1 hl2 hl3 hv hfv hfl V V4 hv2 l2
            unfold msnCells at HL
            go_wp2_with fail; refine (HL.out.1 _ ((HM.out.below B7).mono B7.size)).mono ?_; rintro e w8 ⟨rfl, hb8⟩; have B8 := B7.trans (hb8.mono B7.size); have H8 := H7'.out.below hb8 z7; have z8 := H8.lt; have H8' := Lib.hid H8; obtain ⟨c0, c1, c2, c3, c4, c5, c6, c7, c8, c9, c10⟩ := msn_cells (m := m) (vw := .slice (some ⟨b1, o, none⟩) m.ways.length (m.ways.length + cap1)) (vh := vh) (vr := vr) H8; have HX8 := HXr'.out.below hb8 zxr; have HY8 := HYr'.out.below hb8 zyr; have HMm8 := Lib.hid ((HMm.out.below hb8).mono hb8.size); clear hb8 H8
            clear c0 c1 c2 c3 c4 c5 c6 c7 c8 c9 c10
            obtain ⟨c0, c1, c2, c3, c4, c5, c6, c7, c8, c9, c10⟩ := msn_cells (m := mvM m dx dy) (vw := .slice (some ⟨g, 0, none⟩) m.ways.length (m.ways.length + c)) (vh := vh) (vr := vr) HX8
            have zy8 := HY8.lt
            have HY8' := Lib.hid HY8
            clear HX8 HY8
            go_wp2_with fail
            refine (HL.out.2.1 _ HMm8.out).mono ?_
            rintro e wN ⟨rfl, hb9⟩
            have BN := B8.trans (hb9.mono B8.size)
            have HYN := HY8'.out.below hb9 zy8
            have HN := H8'.out.below hb9 z8
            clear c0 c1 c2 c3 c4 c5 c6 c7 c8 c9 c10 hb9
            have yc : wN.cell? ⟨y, 4, none⟩ = some (.int .i64 m.speed) := HYN.cell (i := 4) rfl
            have yf := cells_free HYN 4
            have c4 : wN.cell? ⟨w.heap.size, 4, none⟩ = some (.int .i64 m.speed) := HN.cell (i := 4) rfl
            have HY9 := (HYN.set 4 (.int .i64 sp) : Has (wN.setCell ⟨y, 4, none⟩ (.int .i64 sp)) y (msnCells (fastM m sp) (.slice (some ⟨b1, o, none⟩) m.ways.length (m.ways.length + cap1)) vh vr) 26)
            have B9 := BN.setCell (p := ⟨y, 4, none⟩) (by simp; omega) (.int .i64 sp)
            have HY9' := Lib.hid HY9
            have HB9 := Lib.hid B9
            clear HY9 B9 HYN HN BN
            go_upto_region 19 with fail
            try rw [hsp]
            generalize wN.setCell ⟨y, 4, none⟩ (.int .i64 sp) = w9 at HY9' HB9 ⊢
            clear yc yf c4
            obtain ⟨c0, c1, c2, c3, c4, c5, c6, c7, c8, c9, c10⟩ := msn_cells (m := fastM m sp) (vw := .slice (some ⟨b1, o, none⟩) m.ways.length (m.ways.length + cap1)) (vh := vh) (vr := vr) HY9'.out
            go_wp2_with fail
            refine (HL.out.2.2 _ ((HM.out.below HB9.out).mono HB9.out.size)).mono ?_
            rintro e wA ⟨rfl, hb9⟩
            have BA := Lib.hid (HB9.out.trans (hb9.mono HB9.out.size))
            clear hb9
            go_wp2
            go_ret
            exact ⟨rfl, BA.out⟩

set_option maxRecDepth 100000 in
theorem lifted (os : Os) (started : os.Started) (H : Type) (enc : TypeId × Value → H) :
    ReturnsInHanded {} Try.checked os 8 .any (Rows.missionMovedSpec.pre6 enc Try.prog Try.f8 Rows.missionMovedRow.domain false) (Rows.missionMovedSpec.post enc Try.prog Try.f8 false true false false) := by
  refine returnsInHanded_of_change_sized (C := Try.checked) own started (by kernel_rfl) Try.func8
    (ChangeSpec.witness6 (enc := enc) (C := Try.checked) false ⟨#[], #[.agg #[.slice none 0 0, .slice none 0 0, .int .i64 0, .slice none 0 0, .int .i64 0, .int .i64 0, .int .i64 0, .int .i64 0, .int .i64 0, .int .i64 0, .int .i64 0], .agg #[.int .i64 0, .int .i64 0], .int .u16 0, .int .u8 0, .int .u8 0], []⟩ 8 (by kernel_rfl) (by kernel_rfl) (by kernel_rfl) (by kernel_rfl)) ?_
  intro W base args ds gs before hval0 hW hcnd hsz0 _
  have hval : ∀ (j : Nat) t v, Try.f8.params[j]? = some t → args[j]? = some v → Value.okWide Try.prog W .any base t v := hval0
  have hW' := hW
  obtain ⟨p, q, hA0, hV, rfl, hfz, hnd⟩ := hW
  have hA : DataW.TrodAll enc Try.prog W 0 (fun _ => true) true Try.f8.params.toList args.toList ds p := hA0
  have hsz : (DataW.weightsEach Try.prog (Try.f8.params.toList ++ Rows.missionMovedSpec.plain.varTypes Try.prog) (ds ++ gs)).all (· ≤ reachBytes) = true := hsz0
  rw [Try.params8] at hA hval hsz
  obtain ⟨v0, vs0, d0, ds0, p0, q0, hargs, rfl, rfl, h0, r0⟩ := trodAll_cons hA
  obtain ⟨v1, vs1, d1, ds1, p1, q1, rfl, rfl, rfl, h1, r1⟩ := trodAll_cons r0
  obtain ⟨v2, vs2, d2, ds2, p2, q2, rfl, rfl, rfl, h2, r2⟩ := trodAll_cons r1
  obtain ⟨v3, vs3, d3, ds3, p3, q3, rfl, rfl, rfl, h3, r3⟩ := trodAll_cons r2
  obtain ⟨v4, vs4, d4, ds4, p4, q4, rfl, rfl, rfl, h4, r4⟩ := trodAll_cons r3
  obtain ⟨rfl, rfl, rfl⟩ := trodAll_nil r4
  obtain rfl : args = #[v0, v1, v2, v3, v4] := by cases args; simp_all
  obtain ⟨rfl, rfl⟩ := trodVars_none hV
  have k0 := h0
  have lt0 : ∀ x ∈ p0, x.block < W.heap.size := by obtain ⟨m, hm⟩ := k0; exact DataW.trod_lt m _ _ _ hm
  have z0 : ∀ n ∈ d0.weights Try.prog 26, n ≤ reachBytes := fun n hn => by have := List.all_eq_true.1 hsz n (DataW.weights_mem_each (j := 0) (t := 26) (d := d0) rfl rfl n hn); simpa using this
  obtain ⟨a0, vw0, vh0, vr0, rfl, w0⟩ := open_msn (hval 0 26 v0 rfl rfl) h0 z0
  have k1 := h1
  have lt1 : ∀ x ∈ p1, x.block < W.heap.size := by obtain ⟨m, hm⟩ := k1; exact DataW.trod_lt m _ _ _ hm
  obtain ⟨a1, b1, rfl⟩ := open_point (hval 1 38 v1 rfl rfl) h1
  obtain ⟨a2, rfl, rfl, rfl, w2⟩ := open_int Try.underlying44 (hval 2 44 v2 rfl rfl) h2
  obtain ⟨a3, rfl, rfl, rfl, w3⟩ := open_int Try.underlying5 (hval 3 5 v3 rfl rfl) h3
  obtain ⟨a4, rfl, rfl, rfl, w4⟩ := open_int Try.underlying5 (hval 4 5 v4 rfl rfl) h4
  clear hA0 hval0
  refine (walk W a0 vw0 vh0 vr0 a1 b1 a2 a3 a4 w0 w2 w3 w4).mono fun e W' ⟨he, bel⟩ => ?_
  subst he
  exact ⟨_, rfl, _, _, _, [], _, [], hW', trodAll_mk1 (shut_bool Try.underlying4 _), (trodAll_cons_mk (Below.trod laidOut (by kernel_rfl) (of_decide_eq_true (by kernel_rfl)) k0 bel lt0) (trodAll_cons_mk (Below.trod laidOut (by kernel_rfl) (of_decide_eq_true (by kernel_rfl)) k1 bel lt1) (trodAll_cons_mk (shut_int Try.underlying44 w2) (trodAll_cons_mk (shut_int Try.underlying5 w3) (trodAll_cons_mk (shut_int Try.underlying5 w4) trodAll_mk0))))), rfl, bel.frame _, fun h => by cases h⟩

theorem over : Rows.missionMovedRow.holds Try.pinned (OpenSpec.ofChange Rows.missionMovedSpec) :=
  OpenClaim.holds_of_wide 8 Try.f8 rfl rfl rfl rfl rfl rfl rfl ⟨rfl, rfl, rfl, rfl, rfl⟩ rfl rfl rfl rfl rfl (by kernel_rfl) Try.func8 (by kernel_rfl)
    (of_decide_eq_true (by kernel_rfl)) (by unfold Func.isWrapper; first | (rw [if_pos (by decide +kernel)]; kernel_rfl) | (rw [if_neg (by decide +kernel)]; exact ⟨rfl, rfl⟩))
    (fun os started H enc _ => lifted os started H enc)

/-- the statement -/
theorem proved : Rows.MissionMovedSaid := over
#print axioms proved
end Go.Proofs.Ytjnjmpakmgmdbaa.missionMoved
