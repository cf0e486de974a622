/- For all missions, stops and bits (up to 8 ways, 12 rocks and 20 stops): with further stops nothing is less, and what is used up before the first further one, and at it, stays. No condition. -/
import Derived.Test.YtjnjmpakmgmdbaaHead34
import Derived.Test.YtjnjmpakmgmdbaaOpen
import Derived.OwnWalk
namespace Go.Proofs.Ytjnjmpakmgmdbaa.powerStops
open Go.ChangeShapes Go.WideShapes Go.ChangeAt Go.RowKit
set_option linter.unusedVariables false
theorem own : ownKnob Try.prog.godebug = none := by kernel_rfl
theorem laidOut : laidOutB Try.prog = true := by kernel_rfl
attribute [local irreducible] wpQuiet

theorem getD_mem {l : List Int} {k : Nat} (hk : k < l.length) : l.getD k 0 ∈ l := by simp [List.getD, List.getElem?_eq_getElem hk]
theorem mem_getD {l : List Int} {x : Int} (h : x ∈ l) : ∃ k, k < l.length ∧ l.getD k 0 = x := by
  obtain ⟨k, hk, e⟩ := List.getElem_of_mem h
  exact ⟨k, hk, by simp [List.getD, List.getElem?_eq_getElem hk, e]⟩
theorem stops_at {m : Msn} {l : List Int} (h : stopsB m l = true) {k : Nat} (hk : k < l.length) : stopOk m l k := by
  simp only [stopsB, decide_eq_true_eq] at h; exact h k hk
theorem stops_inc {m : Msn} {l : List Int} (h : stopsB m l = true) : ∀ k j, j < k → k < l.length → l.getD j 0 < l.getD k 0
  | 0, _, hj, _ => by omega
  | k + 1, j, hj, hk => by
    have a := (stops_at h hk).1
    simp only [prevS, Nat.add_one_ne_zero, if_false, Nat.add_sub_cancel] at a
    by_cases e : j = k
    · rw [e]; exact a
    · have := stops_inc h k j (by omega) (by omega); omega
theorem stops_pos {m : Msn} {l : List Int} (h : stopsB m l = true) {k : Nat} (hk : k < l.length) : 0 < l.getD k 0 ∧ l.getD k 0 < m.ways.length ∧ (wy m.ways (l.getD k 0).toNat).fix ≠ 0 := by
  have a := stops_at h hk
  refine ⟨?_, a.2⟩
  rcases Nat.eq_zero_or_pos k with e | e
  · subst e; exact a.1
  · have b := stops_inc h k 0 e hk
    have c := (stops_at h (show 0 < l.length by omega)).1
    have c2 : prevS l 0 = 0 := rfl
    omega
theorem stops_of {m : Msn} {l : List Int} (h1 : l.Pairwise (· < ·)) (h2 : ∀ x ∈ l, 0 < x ∧ x < m.ways.length ∧ (wy m.ways x.toNat).fix ≠ 0) : stopsB m l = true := by
  simp only [stopsB, decide_eq_true_eq]
  intro k hk
  refine ⟨?_, (h2 _ (getD_mem hk)).2⟩
  unfold prevS
  split
  · exact (h2 _ (getD_mem hk)).1
  · have := List.pairwise_iff_getElem.1 h1 (k - 1) k (by omega) hk (by omega)
    simpa [List.getD, List.getElem?_eq_getElem hk, List.getElem?_eq_getElem (show k - 1 < l.length by omega)] using this

/-- the stops whose bit is not set, of the first k -/
def someL (f : Nat → Bool) (l : List Int) : Nat → List Int
  | 0 => []
  | k + 1 => if f k = true then someL f l k else someL f l k ++ [l.getD k 0]
/-- the first stop whose bit is set, of the last c -/
def firstC (f : Nat → Bool) (l : List Int) (n0 : Int) : Nat → Int
  | 0 => n0
  | c + 1 => if f (l.length - (c + 1)) = true then l.getD (l.length - (c + 1)) 0 else firstC f l n0 c
theorem some_len (f : Nat → Bool) (l : List Int) : ∀ k, (someL f l k).length ≤ k
  | 0 => by simp [someL]
  | k + 1 => by
    have := some_len f l k
    simp only [someL]
    split
    · omega
    · simp; omega
theorem mem_some {f : Nat → Bool} {l : List Int} {x : Int} : ∀ k, x ∈ someL f l k ↔ ∃ j, j < k ∧ f j = false ∧ l.getD j 0 = x
  | 0 => by simp [someL]
  | k + 1 => by
    have ih := mem_some (f := f) (l := l) (x := x) k
    simp only [someL]
    cases h : f k
    · simp only [Bool.false_eq_true, if_false, List.mem_append, List.mem_singleton, ih]
      constructor
      · rintro (⟨j, h1, h2, h3⟩ | rfl)
        · exact ⟨j, by omega, h2, h3⟩
        · exact ⟨k, by omega, h, rfl⟩
      · rintro ⟨j, h1, h2, h3⟩
        by_cases e : j = k
        · exact .inr (by rw [← h3, e])
        · exact .inl ⟨j, by omega, h2, h3⟩
    · simp only [if_true, ih]
      constructor
      · rintro ⟨j, h1, h2, h3⟩; exact ⟨j, by omega, h2, h3⟩
      · rintro ⟨j, h1, h2, h3⟩
        refine ⟨j, ?_, h2, h3⟩
        have : j ≠ k := by intro e; rw [e, h] at h2; cases h2
        omega
theorem some_pair {m : Msn} {l : List Int} (h : stopsB m l = true) (f : Nat → Bool) : ∀ k, k ≤ l.length → (someL f l k).Pairwise (· < ·)
  | 0, _ => by simp [someL]
  | k + 1, hk => by
    have ih := some_pair h f k (by omega)
    simp only [someL]
    split
    · exact ih
    · rw [List.pairwise_append]
      refine ⟨ih, by simp, fun a ha b hb => ?_⟩
      obtain ⟨j, h1, _, rfl⟩ := (mem_some k).1 ha
      simp only [List.mem_singleton] at hb
      subst hb
      exact stops_inc h k j h1 (by omega)
theorem some_stops {m : Msn} {l : List Int} (h : stopsB m l = true) (f : Nat → Bool) : stopsB m (someL f l l.length) = true :=
  stops_of (some_pair h f _ (Nat.le_refl _)) fun x hx => by
    obtain ⟨j, h1, _, rfl⟩ := (mem_some _).1 hx
    exact stops_pos h h1
theorem first_le {m : Msn} {l : List Int} (h : stopsB m l = true) (f : Nat → Bool) (n0 : Int) : ∀ c, c ≤ l.length → ∀ j, l.length - c ≤ j → j < l.length → f j = true → firstC f l n0 c ≤ l.getD j 0
  | 0, _, j, h1, h2, _ => by omega
  | c + 1, hc, j, h1, h2, h3 => by
    have ih := first_le h f n0 c (by omega) j
    simp only [firstC]
    by_cases e : j = l.length - (c + 1)
    · subst e; rw [if_pos h3]; exact Int.le_refl _
    · split
      · have := stops_inc h j (l.length - (c + 1)) (by omega) h2; omega
      · exact ih (by omega) h2 h3
theorem wait_law {m : Msn} (V : VMsn m) {l : List Int} (h : stopsB m l = true) (f : Nat → Bool) (n0 : Int) {k : Nat} (hk : k < m.ways.length) :
    waitT m (someL f l l.length) k ≤ waitT m l k ∧ ((k : Int) < firstC f l n0 l.length → waitT m (someL f l l.length) k = waitT m l k) := by
  have wb := wayB_true (waysB_at V.ways hk)
  unfold waitT
  by_cases h1 : (k : Int) ∈ someL f l l.length
  · have h2 : (k : Int) ∈ l := by
      obtain ⟨j, a, _, e⟩ := (mem_some _).1 h1
      rw [← e]; exact getD_mem a
    rw [if_pos h1, if_pos h2]
    exact ⟨Int.le_refl _, fun _ => rfl⟩
  · rw [if_neg h1]
    by_cases h2 : (k : Int) ∈ l
    · rw [if_pos h2]
      refine ⟨by omega, fun h3 => ?_⟩
      obtain ⟨j, a, e⟩ := mem_getD h2
      cases hf : f j
      · exact absurd ((mem_some _).2 ⟨j, a, hf, e⟩) h1
      · have := first_le h f n0 l.length (Nat.le_refl _) j (by omega) a hf
        omega
    · rw [if_neg h2]
      exact ⟨Int.le_refl _, fun _ => rfl⟩
theorem used_law {m : Msn} (V : VMsn m) {l : List Int} (h : stopsB m l = true) (f : Nat → Bool) (n0 : Int) : ∀ k, k < m.ways.length →
    (usT m (someL f l l.length) k ≤ usT m l k ∧ usE m (someL f l l.length) k ≤ usE m l k) ∧ ((k : Int) ≤ firstC f l n0 l.length → usT m (someL f l l.length) k = usT m l k ∧ usE m (someL f l l.length) k = usE m l k)
  | 0, _ => by simp [usT, usE]
  | k + 1, hk => by
    obtain ⟨⟨a1, a2⟩, a3⟩ := used_law V h f n0 k (by omega)
    obtain ⟨b1, b2⟩ := wait_law V h f n0 (k := k) (by omega)
    have i1 := Int.mul_le_mul_of_nonneg_left b1 V.idle.1
    simp only [usT, usE]
    refine ⟨⟨by omega, by omega⟩, fun h3 => ?_⟩
    have c := a3 (by omega)
    have d := b2 (by omega)
    rw [c.1, c.2, d]
    exact ⟨rfl, rfl⟩

theorem ints_at {n0 : Nat} {W : World} {v : Value} {l : List Int} {n : Nat} (h : IntsAt n0 W v l) (hl : l.length = n) (h0 : 0 < n) : ∃ b o cap, v = .slice (some ⟨b, o, none⟩) n (n + cap) ∧ b < n0 ∧ ∀ j, j < n → W.cell? ⟨b, o + j, none⟩ = some (.int .i64 (l.getD j 0)) := by
  subst hl
  obtain ⟨_, a, cap, rfl, hc⟩ := h
  rcases hc with hn | ⟨b, o, rfl, hb, hc⟩
  · rw [hn] at h0; simp at h0
  · exact ⟨b, o, cap, rfl, hb, hc⟩
theorem upto_get {f : Nat → Int} {n j : Nat} (hj : j < n) : (upto f n).getD j 0 = f j := by simp [upto, List.getD, hj]

/-- a stop's bit -/
def bitB (u k : Nat) : Bool := bits BinOp.and IntKind.u32 ((u : Int) / 2 ^ k) 1 == 1
theorem bit_zero (u k : Nat) : (bits BinOp.and IntKind.u32 ((u : Int) / 2 ^ k) 1 == 0) = !bitB u k := by
  have e : bits BinOp.and IntKind.u32 ((u : Int) / 2 ^ k) 1 = ((((BitVec.ofInt 32 ((u : Int) / 2 ^ k)).toNat % 2 : Nat)) : Int) := by
    unfold bits
    have h : ((BitVec.ofInt IntKind.u32.bits ((u : Int) / 2 ^ k)) &&& (BitVec.ofInt IntKind.u32.bits 1)).toNat = (BitVec.ofInt 32 ((u : Int) / 2 ^ k)).toNat % 2 := by
      rw [BitVec.toNat_and]
      exact Nat.and_one_is_mod _
    simp only [h]
    rcases Nat.mod_two_eq_zero_or_one (BitVec.ofInt 32 ((u : Int) / 2 ^ k)).toNat with h | h <;> rw [h] <;> rfl
  unfold bitB
  rw [e]
  rcases Nat.mod_two_eq_zero_or_one (BitVec.ofInt 32 ((u : Int) / 2 ^ k)).toNat with h | h <;> rw [h] <;> rfl

set_option maxRecDepth 8000 in
set_option maxHeartbeats 3000000 in
theorem walk (w : World) (m : Msn) (vw vh vr vl : Value) (l : List Int) (u : Int) (hm : MsnAt w.heap.size w m vw vh vr) (hl : IntsAt w.heap.size w vl l) (w3 : (Lit.int .u32 u).wf = true) :
    Calls Try.prog 12 #[.agg (msnCells m vw vh vr), vl, .int .u32 u] w fun e w' => e = .returned (.bool true) ∧ Below w.heap.size w w' := by
  obtain ⟨u, rfl, hu⟩ := u32_bd w3
  clear w3
  have HL0 := Lib.hid hl
  obtain ⟨hll, al, capl, rfl, hlc⟩ := hl
  have hlH := Lib.hid hlc
  clear hlc
  obtain ⟨_, a1, cap1, hvw, _⟩ := hm.1
  subst hvw
  have hff := fun w1 h => few34_any m (.slice a1 m.ways.length (m.ways.length + cap1)) vh vr (.slice al l.length (l.length + capl)) l w1 h ⟨al, capl, rfl⟩
  have HF := Lib.hid hff
  have H0 := Has.new w (msnCells m (.slice a1 m.ways.length (m.ways.length + cap1)) vh vr) 26
  have HM := Lib.hid hm
  have H0' := Lib.hid H0
  clear hff hm H0
  unfold msnCells at *
  go_enter Try.func12, Try.ntmps12
  go_wp2_with fail; refine (head34_any _).mono ?_; rintro e w1 ⟨rfl, hb1⟩; have B1 : Below w.heap.size w w1 := ((Below.refl _ w).alloc (Nat.le_refl _) _).trans (hb1.mono (by simp)); have H1 := H0'.out.below (hb1.mono (by simp) : Below (w.heap.size + 1) _ w1) (by omega); have z1 := H1.lt; have H1' := Lib.hid H1; obtain ⟨c0, c1, c2, c3, c4, c5, c6, c7, c8, c9, c10⟩ := msn_cells (m := m) (vw := .slice a1 m.ways.length (m.ways.length + cap1)) (vh := vh) (vr := vr) H1; clear hb1 H1
  go_wp2_with fail; refine (HF.out _ ((HM.out.below B1).mono B1.size)).mono ?_; rintro e w2 ⟨rfl, hb2⟩; have B2 := B1.trans (hb2.mono B1.size); have H2 := H1'.out.below hb2 z1; have z2 := H2.lt; have H2' := Lib.hid H2; obtain ⟨c0, c1, c2, c3, c4, c5, c6, c7, c8, c9, c10⟩ := msn_cells (m := m) (vw := .slice a1 m.ways.length (m.ways.length + cap1)) (vh := vh) (vr := vr) H2; clear hb2 H2
  cases hfew : few34B m l
  · go_wp2
    go_ret
    exact ⟨rfl, B2⟩
  have hfw := Lib.hid hfew
  have h0 : 0 < m.ways.length := few34_ways hfew
  clear hfew
  have hne : ¬ m.ways = [] := by intro h; rw [h] at h0; simp at h0
  have hl20 := few34_len hfw.out
  go_wp2
  go_loopw [9, 10] (fun x i wr => ∃ q : Nat, q ≤ l.length ∧ i = .int .i64 ((q : Int) - 1) ∧ x = .int .i64 (firstC (bitB u) l m.ways.length (l.length - q)) ∧ Below w2.heap.size w2 wr) (fun _ i _ => (intOf i + 1).toNat)
  case atStart => exact ⟨l.length, by omega, rfl, by simp [firstC], Below.refl _ _⟩
  case round =>
    obtain ⟨q, hq, rfl, rfl, hB⟩ := hrel
    have BX := B2.trans (hB.mono B2.size)
    rcases Nat.eq_zero_or_pos q with h0q | hpq
    · subst h0q
      rw [show ((0 : Nat) : Int) - 1 = -1 from rfl]
      simp only [Nat.sub_zero]
      have BXX := Lib.hid BX
      have HXX := Lib.hid (H2'.out.below hB z2)
      have hzx := hB.size
      obtain ⟨i0, hi, hz0', hz1', hz2'⟩ := info_parts intInfo
      obtain ⟨wq, rfl⟩ : ∃ x, x = wr := ⟨_, rfl⟩
      clear BX hB
      go_wp2
      go_loopw [8, 47] (fun v k wr => ∃ q : Nat, q ≤ l.length ∧ k = .int .i64 (q : Int) ∧ wr.ownsRow wq.heap.size 3 1 v (someL (bitB u) l q).length ((someL (bitB u) l q).map (Value.int .i64)) ∧ Below wq.heap.size wq wr) (fun _ k _ => l.length - (intOf k).toNat)
      case atStart => exact ⟨0, by omega, rfl, World.ownsRow_nil _ _ _ _, Below.refl _ _⟩
      case round =>
        obtain ⟨q, hq, rfl, hrow, hZ⟩ := hrel
        have BZ := BXX.out.trans (hZ.mono BXX.out.size)
        have hzz := hZ.size
        by_cases hlq : q < l.length
        · obtain ⟨bl, ol, rfl, hbl, hcl⟩ : ∃ b1 o1, al = some ⟨b1, o1, none⟩ ∧ b1 < w.heap.size ∧ ∀ j, j < l.length → w.cell? ⟨b1, o1 + j, none⟩ = some (.int .i64 (l.getD j 0)) := by
            rcases hlH.out with h | h
            · rw [h] at hlq; simp at hlq
            · exact h
          have f1 := (BZ.cell (p := ⟨bl, ol + q, none⟩) hbl).trans (hcl q hlq)
          have dq : decide ((q : Int) < (l.length : Int)) = true := by simp; omega
          have hs : Hid (someL (bitB u) l (q + 1) = if bitB u q = true then someL (bitB u) l q else someL (bitB u) l q ++ [l.getD q 0]) := rfl
          have hsl := some_len (bitB u) l q
          have hp64 : (q : Int) ≤ 64 := by omega
          have hq0 : (0 : Int) ≤ q := by omega
          have hqi : (q : Int) < l.length := by omega
          generalize l.getD q 0 = s at *
          have hZZ := Lib.hid hZ
          clear hcl hZ
          have hbz := bit_zero u q
          cases hb : bitB u q
          · rw [hb] at hs hbz
            simp only [Bool.not_false] at hbz
            have hrow' := hrow
            clear hb hrow
            go_wp2_with (at_builtin; refine wpList_append_own _ rfl _ _ 32 rfl wq.heap.size 3 i0 (.int .i64 0) 1 8 Try.underlying32 hi hz0' hz1' hz2' rfl (by decide) _ _ _ rfl (hrow'.alloc _) ⟨wr.heap.size, 0, none⟩ 1 1 [.int .i64 s] rfl rfl (cell_one_new _ _ _) (by simp [Value.oneCell']) (by unfold maxLen; omega) (by omega) (by simp; omega) ?_; intro v' w1 hown' hgrow _)
            go_roundw
            case rel =>
              have hb0 : Below wq.heap.size wr w1 := ((Below.refl wq.heap.size wr).alloc (by omega) _).grown hgrow (by simp; omega) (fun j ej => (hrow'.lt j ej).1)
              refine ⟨q + 1, by omega, by go_num, ?_, hZZ.out.trans (hb0.mono (Nat.le_refl _))⟩
              rw [hs.out]
              simpa using hown'
            case measure => simp [intOf]; omega
          · rw [hb] at hs hbz
            simp only [Bool.not_true] at hbz
            have hrow' := Lib.hid hrow
            clear hb hrow
            go_wp2
            go_roundw
            case rel => exact ⟨q + 1, by omega, by go_num, by rw [hs.out]; exact hrow'.out, hZZ.out⟩
            case measure => simp [intOf]; omega
        · obtain rfl : q = l.length := by omega
          have hIS := IntsAt.own hrow (by have := some_len (bitB u) l l.length; omega)
          have H5 := HXX.out.below (hZ.mono hzx) z2
          have B5 := BZ
          have hlv := hIS
          obtain ⟨_, av, cv, rfl, _⟩ := hlv
          have z5 := H5.lt
          have H5' := Lib.hid H5
          have HI := Lib.hid hIS
          have hdq : decide ((l.length : Int) < (l.length : Int)) = false := by simp
          clear hrow hZ BZ hzz hIS
          clear c0 c1 c2 c3 c4 c5 c6 c7 c8 c9 c10
          obtain ⟨c0, c1, c2, c3, c4, c5, c6, c7, c8, c9, c10⟩ := msn_cells (m := m) (vw := .slice a1 m.ways.length (m.ways.length + cap1)) (vh := vh) (vr := vr) H5
          clear H5
          have hu1 := fun w1 h h2 => used_all m (.slice a1 m.ways.length (m.ways.length + cap1)) vh vr (.slice al l.length (l.length + capl)) l w1 h h2
          have hR : usedTR m l = if usedOk m l = true then usedT m l else [] := rfl
          have hS : usedER m l = if usedOk m l = true then usedE m l else [] := rfl
          have hC : usedC m l = if usedOk m l = true then 0 else 1 := rfl
          cases hok : usedOk m l
          · rw [hok] at hR hS hC
            simp only [Bool.false_eq_true, if_false] at hR hS hC
            rw [hR, hS, hC] at hu1
            have HU := Lib.hid hu1
            clear hu1 hR hS hC hok
            unfold msnCells at HU
            go_wp2_with fail; refine (HU.out _ ((HM.out.below B5).mono B5.size) ((HL0.out.below B5).mono B5.size)).mono ?_; rintro e w6 ⟨va, vb, rfl, ⟨_, aa, ca, rfl, _⟩, ⟨_, ab, cb, rfl, _⟩, hb6⟩; have B6 := B5.trans (hb6.mono B5.size); have H6 := H5'.out.below hb6 z5; have z6 := H6.lt; have H6' := Lib.hid H6; obtain ⟨c0, c1, c2, c3, c4, c5, c6, c7, c8, c9, c10⟩ := msn_cells (m := m) (vw := .slice a1 m.ways.length (m.ways.length + cap1)) (vh := vh) (vr := vr) H6; clear hb6 H6
            go_wp2
            go_ret
            exact ⟨rfl, B6⟩
          · rw [hok] at hR hS hC
            simp only [if_true] at hR hS hC
            rw [hR, hS, hC] at hu1
            have hvs : validB m = true ∧ stopsB m l = true := by simpa [usedOk] using hok
            have V := (validB_iff m).1 hvs.1
            have n41 := V.n41
            have o2 : usedOk m (someL (bitB u) l l.length) = true := by
              unfold usedOk
              rw [hvs.1, some_stops hvs.2]; rfl
            have hu2 := fun w1 h h2 => used_all m (.slice a1 m.ways.length (m.ways.length + cap1)) vh vr (.slice av (someL (bitB u) l l.length).length ((someL (bitB u) l l.length).length + cv)) (someL (bitB u) l l.length) w1 h h2
            simp only [usedTR, usedER, usedC, o2, if_true] at hu2
            have hlaw := fun k hk => used_law V hvs.2 (bitB u) m.ways.length k hk
            have HU := Lib.hid (And.intro hu1 (And.intro hu2 hlaw))
            clear hu1 hu2 hlaw hR hS hC hok hvs V o2
            generalize firstC (bitB u) l (m.ways.length : Int) l.length = F at *
            generalize someL (bitB u) l l.length = sm at *
            unfold msnCells at HU
            go_wp2_with fail; refine (HU.out.1 _ ((HM.out.below B5).mono B5.size) ((HL0.out.below B5).mono B5.size)).mono ?_; rintro e w6 ⟨va, vb, rfl, Ia, Ib, hb6⟩; have B6 := B5.trans (hb6.mono B5.size); have H6 := H5'.out.below hb6 z5; have z6 := H6.lt; have H6' := Lib.hid H6; obtain ⟨c0, c1, c2, c3, c4, c5, c6, c7, c8, c9, c10⟩ := msn_cells (m := m) (vw := .slice a1 m.ways.length (m.ways.length + cap1)) (vh := vh) (vr := vr) H6; have HJ := Lib.hid ((HI.out.below hb6).mono hb6.size); clear hb6 H6
            obtain ⟨bt, ot, capt, rfl, hbt, hct⟩ := ints_at Ia (n := m.ways.length) (by simp [usedT, upto]) h0
            obtain ⟨be, oe, cape, rfl, hbe, hce⟩ := ints_at Ib (n := m.ways.length) (by simp [usedE, upto]) h0
            have Qt : ∀ j, j < m.ways.length → w6.cell? ⟨bt, ot + j, none⟩ = some (.int .i64 (usT m l j)) := fun j hj => by rw [hct j hj]; unfold usedT; rw [upto_get hj]
            have Qe : ∀ j, j < m.ways.length → w6.cell? ⟨be, oe + j, none⟩ = some (.int .i64 (usE m l j)) := fun j hj => by rw [hce j hj]; unfold usedE; rw [upto_get hj]
            have HQ := Lib.hid (And.intro Qt Qe)
            clear Ia Ib hct hce Qt Qe
            go_wp2_with fail
            refine (HU.out.2.1 _ ((HM.out.below B6).mono B6.size) HJ.out).mono ?_
            rintro e w7 ⟨vc, vd, rfl, Ic, Id, hb7⟩
            obtain ⟨ba, oa, capa, rfl, hba, hca⟩ := ints_at Ic (n := m.ways.length) (by simp [usedT, upto]) h0
            obtain ⟨bb, ob, capb, rfl, hbb, hcb⟩ := ints_at Id (n := m.ways.length) (by simp [usedE, upto]) h0
            have Qt : ∀ j, j < m.ways.length → w7.cell? ⟨bt, ot + j, none⟩ = some (.int .i64 (usT m l j)) := fun j hj => (hb7.cell (p := ⟨bt, ot + j, none⟩) hbt).trans (HQ.out.1 j hj)
            have Qe : ∀ j, j < m.ways.length → w7.cell? ⟨be, oe + j, none⟩ = some (.int .i64 (usE m l j)) := fun j hj => (hb7.cell (p := ⟨be, oe + j, none⟩) hbe).trans (HQ.out.2 j hj)
            have Qa : ∀ j, j < m.ways.length → w7.cell? ⟨ba, oa + j, none⟩ = some (.int .i64 (usT m sm j)) := fun j hj => by rw [hca j hj]; unfold usedT; rw [upto_get hj]
            have Qb : ∀ j, j < m.ways.length → w7.cell? ⟨bb, ob + j, none⟩ = some (.int .i64 (usE m sm j)) := fun j hj => by rw [hcb j hj]; unfold usedE; rw [upto_get hj]
            have hbt7 : bt < w7.heap.size := Nat.lt_of_lt_of_le hbt hb7.size
            have hbe7 : be < w7.heap.size := Nat.lt_of_lt_of_le hbe hb7.size
            have B7 := B6.trans (hb7.mono B6.size)
            have B77 := Lib.hid B7
            have HR := Lib.hid (And.intro Qt (And.intro Qe (And.intro Qa Qb)))
            clear c0 c1 c2 c3 c4 c5 c6 c7 c8 c9 c10 hb7 Ic Id hca hcb Qt Qe Qa Qb HQ
            go_wp2
            go_loopw [7, 97] (fun s i wr => ∃ j : Nat, j ≤ m.ways.length ∧ i = .int .i64 (j : Int) ∧ s = .bool true ∧ Below w7.heap.size w7 wr) (fun _ i _ => m.ways.length - (intOf i).toNat)
            case atStart => exact ⟨0, by omega, rfl, rfl, Below.refl _ _⟩
            case round =>
              obtain ⟨j, hj, rfl, rfl, hB⟩ := hrel
              have hzB := hB.size
              by_cases hlt : j < m.ways.length
              · have l1 := Low.fact ((hB.cell (p := ⟨bt, ot + j, none⟩) hbt7).trans (HR.out.1 j hlt))
                have l2 := Low.fact ((hB.cell (p := ⟨be, oe + j, none⟩) hbe7).trans (HR.out.2.1 j hlt))
                have l3 := Low.fact ((hB.cell (p := ⟨ba, oa + j, none⟩) hba).trans (HR.out.2.2.1 j hlt))
                have l4 := Low.fact ((hB.cell (p := ⟨bb, ob + j, none⟩) hbb).trans (HR.out.2.2.2 j hlt))
                obtain ⟨⟨g1, g2⟩, g3⟩ := HU.out.2.2 j hlt
                have dj : decide ((j : Int) < (m.ways.length : Int)) = true := by simp; omega
                have jl : (j : Int) < m.ways.length := by omega
                have j0 : (0 : Int) ≤ j := by omega
                have hBB := Lib.hid hB
                clear hB
                by_cases hF : (j : Int) ≤ F
                · have dF : decide ((j : Int) > F) = false := by rw [decide_eq_false_iff_not]; omega
                  obtain ⟨g4, g5⟩ := g3 hF
                  rw [g4] at l3
                  rw [g5] at l4
                  clear g1 g2 g3 g4 g5
                  generalize usT m l j = s1 at *
                  generalize usE m l j = s2 at *
                  have d1 : decide (s1 ≤ s1) = true := by simp
                  have d2 : decide (s2 ≤ s2) = true := by simp
                  go_wp2
                  (refine wp_region_low (by kernel_rfl) (by kernel_rfl) ?_; (iterate 51 (apply quiet_want; (case hw => rfl); (case hval => (intro w1 hw1; have hcx := Low.cells hw1; simp only [Oper.quietAt]; go_simp; first | done | (first | fail) | rfl | exact ⟨rfl, rfl⟩)); simp only [Act.put, List.setIfInBounds_toArray, List.set_cons_zero, List.set_cons_succ])); refine wpQuiet_nil ?_; intro w2 hw2)
                  have hBf := Lib.hid (hBB.out.trans (hw2.out.mono hzB))
                  clear hw2 l1 l2 l3 l4
                  go_wp2
                  go_roundw
                  case rel => exact ⟨j + 1, by omega, by go_num, rfl, hBf.out⟩
                  case measure => simp [intOf]; omega
                · have dF : decide ((j : Int) > F) = true := by rw [decide_eq_true_eq]; omega
                  clear g3
                  generalize usT m l j = s1 at *
                  generalize usE m l j = s2 at *
                  generalize usT m sm j = s3 at *
                  generalize usE m sm j = s4 at *
                  have d1 : decide (s3 ≤ s1) = true := decide_eq_true g1
                  have d2 : decide (s4 ≤ s2) = true := decide_eq_true g2
                  go_wp2
                  (refine wp_region_low (by kernel_rfl) (by kernel_rfl) ?_; (iterate 28 (apply quiet_want; (case hw => rfl); (case hval => (intro w1 hw1; have hcx := Low.cells hw1; simp only [Oper.quietAt]; go_simp; first | done | (first | fail) | rfl | exact ⟨rfl, rfl⟩)); simp only [Act.put, List.setIfInBounds_toArray, List.set_cons_zero, List.set_cons_succ])); (iterate 20 (apply quiet_skip; (case hw => rfl); simp only [Act.put, List.setIfInBounds_toArray, List.set_cons_zero, List.set_cons_succ])); (iterate 3 (apply quiet_want; (case hw => rfl); (case hval => (intro w1 hw1; have hcx := Low.cells hw1; simp only [Oper.quietAt]; go_simp; first | done | (first | fail) | rfl | exact ⟨rfl, rfl⟩)); simp only [Act.put, List.setIfInBounds_toArray, List.set_cons_zero, List.set_cons_succ])); refine wpQuiet_nil ?_; intro w2 hw2)
                  have hBf := Lib.hid (hBB.out.trans (hw2.out.mono hzB))
                  clear hw2 l1 l2 l3 l4
                  go_wp2
                  go_roundw
                  case rel => exact ⟨j + 1, by omega, by go_num, rfl, hBf.out⟩
                  case measure => simp [intOf]; omega
              · obtain rfl : j = m.ways.length := by omega
                have dj : decide ((m.ways.length : Int) < (m.ways.length : Int)) = false := by simp
                have B9 := Lib.hid (B77.out.trans (hB.mono B77.out.size))
                clear hB
                go_wp2
                go_ret
                exact ⟨rfl, B9.out⟩
    · obtain ⟨p, rfl⟩ : ∃ p, q = p + 1 := ⟨q - 1, by omega⟩
      rw [show ((p + 1 : Nat) : Int) - 1 = (p : Int) by omega]
      have dq : decide ((p : Int) ≥ 0) = true := by simp
      have hp64 : (p : Int) ≤ 64 := by omega
      have hfs : Hid (firstC (bitB u) l m.ways.length (l.length - p) = if bitB u p = true then l.getD p 0 else firstC (bitB u) l m.ways.length (l.length - (p + 1))) := by
        show _ = _
        rw [show l.length - p = (l.length - (p + 1)) + 1 by omega]
        simp only [firstC]
        rw [show l.length - (l.length - (p + 1) + 1) = p by omega]
      obtain ⟨bl, ol, rfl, hbl, hcl⟩ : ∃ b1 o1, al = some ⟨b1, o1, none⟩ ∧ b1 < w.heap.size ∧ ∀ j, j < l.length → w.cell? ⟨b1, o1 + j, none⟩ = some (.int .i64 (l.getD j 0)) := by
        rcases hlH.out with h | h
        · rw [h] at hq; simp at hq
        · exact h
      have f1 := (BX.cell (p := ⟨bl, ol + p, none⟩) hbl).trans (hcl p (by omega))
      have hpl : (p : Int) < l.length := by omega
      have hp0 : (0 : Int) ≤ p := by omega
      have hBB := Lib.hid hB
      generalize firstC (bitB u) l m.ways.length (l.length - (p + 1)) = x0 at *
      generalize l.getD p 0 = s at *
      clear hcl hB
      cases hb : bitB u p
      · have hb' := hb
        unfold bitB at hb'
        rw [hb] at hfs
        clear hb
        go_wp2
        go_roundw
        case rel => exact ⟨p, by omega, rfl, by rw [hfs.out]; rfl, hBB.out⟩
        case measure => simp [intOf]
      · have hb' := hb
        unfold bitB at hb'
        rw [hb] at hfs
        clear hb
        go_wp2
        go_roundw
        case rel => exact ⟨p, by omega, rfl, by rw [hfs.out]; rfl, hBB.out⟩
        case measure => simp [intOf]

set_option maxRecDepth 100000 in
theorem lifted (os : Os) (started : os.Started) (H : Type) (enc : TypeId × Value → H) :
    ReturnsInHanded {} Try.checked os 12 .any (Rows.powerStopsSpec.pre6 enc Try.prog Try.f12 Rows.powerStopsRow.domain false) (Rows.powerStopsSpec.post enc Try.prog Try.f12 false true false false) := by
  refine returnsInHanded_of_change_sized (C := Try.checked) own started (by kernel_rfl) Try.func12
    (ChangeSpec.witness6 (enc := enc) (C := Try.checked) false ⟨#[], #[.agg #[.slice none 0 0, .slice none 0 0, .int .i64 0, .slice none 0 0, .int .i64 0, .int .i64 0, .int .i64 0, .int .i64 0, .int .i64 0, .int .i64 0, .int .i64 0], .slice none 0 0, .int .u32 0], []⟩ 8 (by kernel_rfl) (by kernel_rfl) (by kernel_rfl) (by kernel_rfl)) ?_
  intro W base args ds gs before hval0 hW hcnd hsz0 _
  have hval : ∀ (j : Nat) t v, Try.f12.params[j]? = some t → args[j]? = some v → Value.okWide Try.prog W .any base t v := hval0
  have hW' := hW
  obtain ⟨p, q, hA0, hV, rfl, hfz, hnd⟩ := hW
  have hA : DataW.TrodAll enc Try.prog W 0 (fun _ => true) true Try.f12.params.toList args.toList ds p := hA0
  have hsz : (DataW.weightsEach Try.prog (Try.f12.params.toList ++ Rows.powerStopsSpec.plain.varTypes Try.prog) (ds ++ gs)).all (· ≤ reachBytes) = true := hsz0
  rw [Try.params12] at hA hval hsz
  obtain ⟨v0, vs0, d0, ds0, p0, q0, hargs, rfl, rfl, h0, r0⟩ := trodAll_cons hA
  obtain ⟨v1, vs1, d1, ds1, p1, q1, rfl, rfl, rfl, h1, r1⟩ := trodAll_cons r0
  obtain ⟨v2, vs2, d2, ds2, p2, q2, rfl, rfl, rfl, h2, r2⟩ := trodAll_cons r1
  obtain ⟨rfl, rfl, rfl⟩ := trodAll_nil r2
  obtain rfl : args = #[v0, v1, v2] := by cases args; simp_all
  obtain ⟨rfl, rfl⟩ := trodVars_none hV
  have k0 := h0
  have lt0 : ∀ x ∈ p0, x.block < W.heap.size := by obtain ⟨m, hm⟩ := k0; exact DataW.trod_lt m _ _ _ hm
  have z0 : ∀ n ∈ d0.weights Try.prog 26, n ≤ reachBytes := fun n hn => by have := List.all_eq_true.1 hsz n (DataW.weights_mem_each (j := 0) (t := 26) (d := d0) rfl rfl n hn); simpa using this
  obtain ⟨a0, vw0, vh0, vr0, rfl, w0⟩ := open_msn (hval 0 26 v0 rfl rfl) h0 z0
  have k1 := h1
  have lt1 : ∀ x ∈ p1, x.block < W.heap.size := by obtain ⟨m, hm⟩ := k1; exact DataW.trod_lt m _ _ _ hm
  have z1 : ∀ n ∈ d1.weights Try.prog 32, n ≤ reachBytes := fun n hn => by have := List.all_eq_true.1 hsz n (DataW.weights_mem_each (j := 1) (t := 32) (d := d1) rfl rfl n hn); simpa using this
  obtain ⟨a1, w1⟩ := open_ints_arg (hval 1 32 v1 rfl rfl) h1 z1
  obtain ⟨a2, rfl, rfl, rfl, w2⟩ := open_int Try.underlying53 (hval 2 53 v2 rfl rfl) h2
  clear hA0 hval0
  refine (walk W a0 vw0 vh0 vr0 v1 a1 a2 w0 w1 w2).mono fun e W' ⟨he, bel⟩ => ?_
  subst he
  exact ⟨_, rfl, _, _, _, [], _, [], hW', trodAll_mk1 (shut_bool Try.underlying4 _), (trodAll_cons_mk (Below.trod laidOut (by kernel_rfl) (of_decide_eq_true (by kernel_rfl)) k0 bel lt0) (trodAll_cons_mk (Below.trod laidOut (by kernel_rfl) (of_decide_eq_true (by kernel_rfl)) k1 bel lt1) (trodAll_cons_mk (shut_int Try.underlying53 w2) trodAll_mk0))), rfl, bel.frame _, fun h => by cases h⟩

theorem over : Rows.powerStopsRow.holds Try.pinned (OpenSpec.ofChange Rows.powerStopsSpec) :=
  OpenClaim.holds_of_wide 12 Try.f12 rfl rfl rfl rfl rfl rfl rfl ⟨rfl, rfl, rfl, rfl, rfl⟩ rfl rfl rfl rfl rfl (by kernel_rfl) Try.func12 (by kernel_rfl)
    (of_decide_eq_true (by kernel_rfl)) (by unfold Func.isWrapper; first | (rw [if_pos (by decide +kernel)]; kernel_rfl) | (rw [if_neg (by decide +kernel)]; exact ⟨rfl, rfl⟩))
    (fun os started H enc _ => lifted os started H enc)

/-- the statement -/
theorem proved : Rows.PowerStopsSaid := over
#print axioms proved
end Go.Proofs.Ytjnjmpakmgmdbaa.powerStops
