/- The head of the laws of layer 32. (Printed by tools/mkhead32.py.) -/
import Derived.Test.YtoekcefhphcjjaaBin23
import Derived.Test.YtoekcefhphcjjaaBin30
import Derived.Test.YtoekcefhphcjjaaBin29
import Derived.Test.YtoekcefhphcjjaaBin11
namespace Go.Proofs.Ytoekcefhphcjjaa
open Go.RowKit
attribute [local irreducible] wpQuiet

instance (l : List Pt) (s t : Pt) : Decidable (Nx l s t) := by unfold Nx; infer_instance
def hullB (l h : List Pt) : Bool := decide (l ≠ [] ∧ 1 ≤ h.length ∧ (nth h 0 ∈ l ∧ ∀ x, x ∈ l → ¬ LexLt x (nth h 0)) ∧ (∀ i, i < h.length → Nx l (nth h i) (nth h ((i + 1) % h.length))) ∧ (∀ i, i < h.length → 0 < i → nth h i ≠ nth h 0))
theorem hullB_of {l h : List Pt} (k : hullB l h = true) : hullP l = h := by
  simp only [hullB, decide_eq_true_eq] at k
  obtain ⟨h1, h2, h3, h4, h5⟩ := k
  exact (hullP_eq ⟨fun e => absurd e h1, fun _ => h2, fun _ => h3, h4, fun i h0 hi => h5 i hi h0⟩).symm
theorem disk_0 : diskP 0 = [⟨0, 0⟩] := hullB_of (by decide +kernel)
theorem disk_1 : diskP 1 = [⟨-1, -1⟩, ⟨1, -1⟩, ⟨1, 1⟩, ⟨-1, 1⟩] := hullB_of (by decide +kernel)
theorem disk_2 : diskP 2 = [⟨-2, -1⟩, ⟨-1, -2⟩, ⟨1, -2⟩, ⟨2, -1⟩, ⟨2, 1⟩, ⟨1, 2⟩, ⟨-1, 2⟩, ⟨-2, 1⟩] := hullB_of (by decide +kernel)
/-- the corridor of the chapter -/
def corX : List Pt := [⟨-1, -1⟩, ⟨9, -2⟩, ⟨11, -2⟩, ⟨12, -1⟩, ⟨12, 1⟩, ⟨11, 2⟩, ⟨9, 2⟩, ⟨-1, 1⟩]
theorem cor_x : corE ⟨0, 0⟩ 1 ⟨10, 0⟩ 2 = 0 ∧ corL ⟨0, 0⟩ 1 ⟨10, 0⟩ 2 = corX := by
  have e : corE ⟨0, 0⟩ 1 ⟨10, 0⟩ 2 = 0 := by
    unfold corE
    rw [show (1 : Int).toNat = 1 from rfl, show (2 : Int).toNat = 2 from rfl, disk_1, disk_2]
    decide +kernel
  refine ⟨e, ?_⟩
  unfold corL
  rw [if_pos e]
  unfold corH
  rw [show (1 : Int).toNat = 1 from rfl, show (2 : Int).toNat = 2 from rfl, disk_1, disk_2]
  exact hullB_of (by decide +kernel)
theorem cor_one : corE ⟨3, 4⟩ 0 ⟨3, 4⟩ 0 = 0 ∧ corL ⟨3, 4⟩ 0 ⟨3, 4⟩ 0 = [⟨3, 4⟩] := by
  have e : corE ⟨3, 4⟩ 0 ⟨3, 4⟩ 0 = 0 := by
    unfold corE
    rw [show (0 : Int).toNat = 0 from rfl, disk_0]
    decide +kernel
  refine ⟨e, ?_⟩
  unfold corL
  rw [if_pos e]
  unfold corH
  rw [show (0 : Int).toNat = 0 from rfl, disk_0]
  exact hullB_of (by decide +kernel)
theorem cor_arg : corE ⟨0, 0⟩ (-1) ⟨10, 0⟩ 2 = 1 := if_neg (by decide)
theorem cor_far : corE ⟨500000, 0⟩ 1 ⟨10, 0⟩ 2 = 3 := by
  unfold corE
  rw [show (1 : Int).toNat = 1 from rfl, show (2 : Int).toNat = 2 from rfl, disk_1, disk_2]
  decide +kernel
theorem corX_valid : goValid corX = true := by
  have h := cor_valid cor_x.1
  have e := cor_x.2
  unfold corL at e
  rw [if_pos cor_x.1] at e
  rw [e] at h
  exact goValid_of h
theorem corX_box : boxL corX = ⟨-1, -2⟩ ∧ boxH corX = ⟨12, 2⟩ := by decide
/-- the mission of the chapter -/
def exR : Msn := ⟨[⟨0, 0, 0, 0, 0⟩, ⟨100, 0, 8, 0, 0⟩, ⟨100, 200, 0, 0, 0⟩], [⟨0, 0⟩], 5, [], 10000, 100, 0, 0, 0, 0, 0⟩
/-- the zero mission -/
def noR : Msn := ⟨[], [], 0, [], 0, 0, 0, 0, 0, 0, 0⟩
theorem rdist_of {ax ay bx by' n : Int} (h0 : 0 ≤ n) (h : (ax - bx) * (ax - bx) + (ay - by') * (ay - by') ≤ n * n) (h2 : (n - 1) * (n - 1) < (ax - bx) * (ax - bx) + (ay - by') * (ay - by')) : distV ax ay bx by' = n := by
  unfold distV
  generalize (ax - bx) * (ax - bx) + (ay - by') * (ay - by') = s at *
  have hs := rootUp_spec (s := s) (by
    have : 0 ≤ (n - 1) * (n - 1) := by
      rcases Int.le_total 0 (n - 1) with h | h
      · exact Int.mul_nonneg h h
      · have := Int.mul_nonneg (show 0 ≤ -(n - 1) by omega) (show 0 ≤ -(n - 1) by omega)
        rwa [Int.neg_mul_neg] at this
    omega)
  have h1 := hs.2.2 n h0 h
  rcases Int.lt_or_le (rootUp s) n with h3 | h3
  · have h4 := Int.mul_le_mul (show rootUp s ≤ n - 1 by omega) (show rootUp s ≤ n - 1 by omega) hs.1 (by omega)
    have := hs.2.1
    omega
  · omega
theorem exR_dist : dLeg exR 0 1 = 100 ∧ dLeg exR 1 2 = 200 ∧ dLeg exR 1 0 = 100 ∧ dLeg exR 2 0 = 224 :=
  ⟨rdist_of (by decide) (by decide) (by decide), rdist_of (by decide) (by decide) (by decide), rdist_of (by decide) (by decide) (by decide), rdist_of (by decide) (by decide) (by decide)⟩
theorem exR_g : growthV exR.speed exR.part exR.flow 100 = 10 ∧ growthV exR.speed exR.part exR.flow 200 = 20 ∧ growthV exR.speed exR.part exR.flow 224 = 23 := by decide
theorem exR_legs : gLeg exR 0 1 = 10 ∧ gLeg exR 1 2 = 20 := by
  obtain ⟨d1, d2, _, _⟩ := exR_dist
  obtain ⟨g1, g2, _⟩ := exR_g
  unfold gLeg
  rw [d1, d2]
  exact ⟨g1, g2⟩
theorem exR_grown : grownV exR = 68 := by
  obtain ⟨d1, d2, d3, d4⟩ := exR_dist
  obtain ⟨g1, g2, g3⟩ := exR_g
  show exR.start + (gLeg exR 0 1 + gLeg exR 1 0) + (gLeg exR 1 2 + gLeg exR 2 0) = 68
  unfold gLeg
  rw [d1, d2, d3, d4, g1, g2, g3]
  rfl
theorem exR_valid : validB exR = true := by
  rw [validB_iff]
  refine ⟨by decide, by decide, by decide, by decide, ?_, ?_, by decide, by unfold legOk; decide, by decide, by decide, by decide, by decide, by rw [exR_grown]; decide⟩
  · simp only [goValid, decide_eq_true_eq]
    refine ⟨by decide, by decide, fun k hk => ?_, fun h => absurd h (by decide)⟩
    obtain rfl : k = 0 := by simp [exR] at hk; omega
    exact ⟨by decide, fun h => by omega⟩
  · simp [rocksB, exR]
theorem exR_1 : rdBL exR [1] = [5, 15, 28] ∧ rdAL exR [1] = [5, 8, 28] ∧ rdE exR [1] = 0 := by
  have h : radOkB exR [1] = true := by simp [radOkB, exR_valid]; decide
  simp only [rdBL, rdAL, rdE, h, if_true]
  obtain ⟨g1, g2⟩ := exR_legs
  refine ⟨?_, ?_, trivial⟩
  · show [rdB exR [1] 0, rdB exR [1] 1, rdB exR [1] 2] = _
    simp only [rdB, rdA]
    rw [g1, g2]
    decide
  · show [rdA exR [1] 0, rdA exR [1] 1, rdA exR [1] 2] = _
    simp only [rdA]
    rw [g1, g2]
    decide
theorem exR_0 : rdBL exR [] = [5, 15, 35] ∧ rdAL exR [] = [5, 15, 35] ∧ rdE exR [] = 0 := by
  have h : radOkB exR [] = true := by simp [radOkB, exR_valid]; decide
  simp only [rdBL, rdAL, rdE, h, if_true]
  obtain ⟨g1, g2⟩ := exR_legs
  refine ⟨?_, ?_, trivial⟩
  · show [rdB exR [] 0, rdB exR [] 1, rdB exR [] 2] = _
    simp only [rdB, rdA]
    rw [g1, g2]
    decide
  · show [rdA exR [] 0, rdA exR [] 1, rdA exR [] 2] = _
    simp only [rdA]
    rw [g1, g2]
    decide
theorem noR_e : rdE noR [] = 1 := by
  have hv : validB noR = false := by
    cases h : validB noR
    · rfl
    · have := ((validB_iff noR).1 h).n2
      simp [noR] at this
  simp [rdE, radOkB, hv]
theorem noR_at (n : Nat) (W : World) : MsnAt n W noR (.slice none 0 0) (.slice none 0 0) (.slice none 0 0) :=
  ⟨⟨by simp [noR], none, 0, rfl, .inl rfl⟩, ⟨by simp [noR], none, 0, rfl, .inl rfl⟩, ⟨by simp [noR], none, 0, rfl, .inl rfl⟩⟩
theorem rints_new (w : World) (l : List Int) (T : TypeId) (hl : l.length ≤ 1000) : IntsAt (w.alloc (.cells (l.map (Value.int .i64)).toArray T)).heap.size (w.alloc (.cells (l.map (Value.int .i64)).toArray T)) (.slice (some ⟨w.heap.size, 0, none⟩) l.length l.length) l := by
  refine ⟨by omega, some ⟨w.heap.size, 0, none⟩, 0, rfl, .inr ⟨w.heap.size, 0, rfl, by simp, fun j hj => ?_⟩⟩
  refine (Has.new w _ T).cell ?_
  simp [List.getD, List.getElem?_eq_getElem hj]
theorem at32_any (x y : Int) (w : World) :
    Calls Try.prog 13 #[.int .i64 x, .int .i64 y] w fun e w' => e = .returned (.agg #[.int .i64 x, .int .i64 y]) ∧ Below w.heap.size w w' := by
  go_enter Try.func13, Try.ntmps13
  go_wp2
  exact bodyPost_ret (v := .agg #[.int .i64 x, .int .i64 y]) (by simp [results, Try.f13, go_sem]) rfl ⟨rfl, by repeat (first | exact Below.refl _ _ | assumption | apply Below.drew | refine Below.setCell ?_ (by first | omega | (simp; done) | (simp; omega)) _ | refine Below.alloc ?_ (by first | omega | (simp; done) | (simp; omega)) _ | refine Below.call (by assumption) ?_ (by first | omega | (simp; done) | (simp; omega)))⟩
/-- the mission's slices, from its blocks -/
theorem exR_at {W : World} {a b : Nat} {ra : Nat} (h1 : Has W a #[.int .i64 0, .int .i64 0, .int .i64 0, .int .i64 0, .int .i64 0, .int .i64 100, .int .i64 0, .int .i64 8, .int .i64 0, .int .i64 0, .int .i64 100, .int .i64 200, .int .i64 0, .int .i64 0, .int .i64 0] 53)
    (h2 : Has W b #[.int .i64 0, .int .i64 0] 38) : MsnAt W.heap.size W exR (.slice (some ⟨a, 0, none⟩) 3 3) (.slice (some ⟨b, 0, none⟩) 1 1) (.slice none 0 ra) := by
  refine ⟨⟨by simp [exR], some ⟨a, 0, none⟩, 0, rfl, .inr ⟨a, 0, rfl, h1.lt, fun j hj => ?_⟩⟩, ⟨by simp [exR], some ⟨b, 0, none⟩, 0, rfl, .inr ⟨b, 0, rfl, h2.lt, fun j hj => ?_⟩⟩, ⟨by simp [exR], none, ra, by simp [exR], .inl rfl⟩⟩
  · rcases (show j = 0 ∨ j = 1 ∨ j = 2 by simp [exR] at hj; omega) with rfl | rfl | rfl
    · exact ⟨h1.cell (i := 0) rfl, h1.cell (i := 1) rfl, h1.cell (i := 2) rfl, h1.cell (i := 3) rfl, h1.cell (i := 4) rfl⟩
    · exact ⟨h1.cell (i := 5) rfl, h1.cell (i := 6) rfl, h1.cell (i := 7) rfl, h1.cell (i := 8) rfl, h1.cell (i := 9) rfl⟩
    · exact ⟨h1.cell (i := 10) rfl, h1.cell (i := 11) rfl, h1.cell (i := 12) rfl, h1.cell (i := 13) rfl, h1.cell (i := 14) rfl⟩
  · obtain rfl : j = 0 := by simp [exR] at hj; omega
    exact ⟨h2.cell (i := 0) rfl, h2.cell (i := 1) rfl⟩
set_option linter.unusedSimpArgs false in
set_option linter.unusedVariables false in
set_option maxRecDepth 8000 in
set_option maxHeartbeats 4000000 in
theorem head32_any (w : World) : Calls Try.prog 6 #[] w fun e w' => e = .returned (.bool true) ∧ Below w.heap.size w w' := by
  have f1 := fun w1 => corridor_any ⟨0, 0⟩ ⟨10, 0⟩ 1 2 w1
  rw [cor_x.1, cor_x.2] at f1
  have f1 := Lib.hid f1
  have f2 := fun v w1 h => box_yes v corX w1 h corX_valid
  rw [corX_box.1, corX_box.2] at f2
  have f2 := Lib.hid f2
  have f3 := fun w1 => corridor_any ⟨3, 4⟩ ⟨3, 4⟩ 0 0 w1
  rw [cor_one.1, cor_one.2] at f3
  have f3 := Lib.hid f3
  have f4 := fun w1 => corridor_any ⟨0, 0⟩ ⟨10, 0⟩ (-1) 2 w1
  rw [cor_arg] at f4
  have f4 := Lib.hid f4
  have f5 := fun w1 => corridor_any ⟨500000, 0⟩ ⟨10, 0⟩ 1 2 w1
  rw [cor_far] at f5
  have f5 := Lib.hid f5
  have f6 := fun w1 => radii_all noR _ _ _ _ [] w1 (noR_at _ _) (IntsAt.nil _ _)
  rw [noR_e] at f6
  have f6 := Lib.hid f6
  have f7 := fun a b ra v w1 h1 h2 => radii_all exR (.slice (some ⟨a, 0, none⟩) 3 3) (.slice (some ⟨b, 0, none⟩) 1 1) (.slice none 0 ra) v [1] w1 h1 h2
  rw [exR_1.1, exR_1.2.1, exR_1.2.2] at f7
  have f7 := Lib.hid f7
  have f8 := fun a b ra v w1 h1 h2 => radii_all exR (.slice (some ⟨a, 0, none⟩) 3 3) (.slice (some ⟨b, 0, none⟩) 1 1) (.slice none 0 ra) v [] w1 h1 h2
  rw [exR_0.1, exR_0.2.1, exR_0.2.2] at f8
  have f8 := Lib.hid f8
  have fa := Lib.hid at32_any
  have B0 := Lib.hid (Below.refl w.heap.size w)
  obtain ⟨w0, hw0⟩ : ∃ x, x = w := ⟨_, rfl⟩
  subst hw0
  go_enter Try.func6, Try.ntmps6
  go_wp2_with fail
  refine (fa.out 0 0 _).mono ?_
  rintro e w1 ⟨rfl, b1⟩
  have B1 := Lib.hid (B0.out.trans (b1.mono B0.out.size))
  clear b1
  go_wp2_with fail
  refine (fa.out 10 0 _).mono ?_
  rintro e w2 ⟨rfl, b2⟩
  have B2 := Lib.hid (B1.out.trans (b2.mono B1.out.size))
  clear b2
  go_wp2_with fail
  refine (f1.out _).mono ?_
  rintro e w3 ⟨v3, rfl, p3, b3⟩
  have B3 := Lib.hid (B2.out.trans (b3.mono B2.out.size))
  obtain ⟨a3, d3, hv3⟩ := p3.len
  subst hv3
  have P := Lib.hid p3
  clear p3
  clear b3
  go_wp2_with fail
  refine (f2.out _ _ P.out).mono ?_
  rintro e w4 ⟨rfl, b4⟩
  have B4 := Lib.hid (B3.out.trans (b4.mono B3.out.size))
  clear P
  clear b4
  have LO := Lib.hid ((Has.new w4 #[.int .i64 (-1), .int .i64 (-2)] 38).below ((Below.refl (w4.heap.size + 1) _).alloc (by simp) (.cells #[.int .i64 12, .int .i64 2] 38)) (by omega))
  have HI := Lib.hid (show Has ((w4.alloc (.cells #[.int .i64 (-1), .int .i64 (-2)] 38)).alloc (.cells #[.int .i64 12, .int .i64 2] 38)) (w4.heap.size + 1) #[.int .i64 12, .int .i64 2] 38 by have := Has.new (w4.alloc (.cells #[.int .i64 (-1), .int .i64 (-2)] 38)) #[.int .i64 12, .int .i64 2] 38; rwa [World.size_alloc] at this)
  have B4' := Lib.hid (B4.out.trans (((((Below.refl w4.heap.size w4).alloc (Nat.le_refl _) (.cells #[.int .i64 (-1), .int .i64 (-2)] 38)).alloc (by simp) (.cells #[.int .i64 12, .int .i64 2] 38))).mono B4.out.size))
  have hz4 : ((w4.alloc (.cells #[.int .i64 (-1), .int .i64 (-2)] 38)).alloc (.cells #[.int .i64 12, .int .i64 2] 38)).heap.size = w4.heap.size + 2 := by simp
  go_wp2_with fail
  generalize hX : ((w4.alloc (.cells #[.int .i64 (-1), .int .i64 (-2)] 38)).alloc (.cells #[.int .i64 12, .int .i64 2] 38)) = X4 at *
  clear hX
  refine (fa.out 3 4 _).mono ?_
  rintro e w5 ⟨rfl, b5⟩
  have B5 := Lib.hid (B4'.out.trans (b5.mono B4'.out.size))
  replace LO := Lib.hid (LO.out.below b5 LO.out.lt)
  replace HI := Lib.hid (HI.out.below b5 HI.out.lt)
  clear b5
  go_wp2_with fail
  refine (fa.out 3 4 _).mono ?_
  rintro e w6 ⟨rfl, b6⟩
  have B6 := Lib.hid (B5.out.trans (b6.mono B5.out.size))
  replace LO := Lib.hid (LO.out.below b6 LO.out.lt)
  replace HI := Lib.hid (HI.out.below b6 HI.out.lt)
  clear b6
  go_wp2_with fail
  refine (f3.out _).mono ?_
  rintro e w7 ⟨v7, rfl, p7, b7⟩
  have B7 := Lib.hid (B6.out.trans (b7.mono B6.out.size))
  replace LO := Lib.hid (LO.out.below b7 LO.out.lt)
  replace HI := Lib.hid (HI.out.below b7 HI.out.lt)
  obtain ⟨a7, d7, hv7⟩ := p7.len
  subst hv7
  have ONE := Lib.hid p7
  clear p7
  clear b7
  go_wp2_with fail
  refine (fa.out 0 0 _).mono ?_
  rintro e w8 ⟨rfl, b8⟩
  have B8 := Lib.hid (B7.out.trans (b8.mono B7.out.size))
  replace LO := Lib.hid (LO.out.below b8 LO.out.lt)
  replace HI := Lib.hid (HI.out.below b8 HI.out.lt)
  replace ONE := Lib.hid ((ONE.out.below b8).mono b8.size)
  clear b8
  go_wp2_with fail
  refine (fa.out 10 0 _).mono ?_
  rintro e w9 ⟨rfl, b9⟩
  have B9 := Lib.hid (B8.out.trans (b9.mono B8.out.size))
  replace LO := Lib.hid (LO.out.below b9 LO.out.lt)
  replace HI := Lib.hid (HI.out.below b9 HI.out.lt)
  replace ONE := Lib.hid ((ONE.out.below b9).mono b9.size)
  clear b9
  go_wp2_with fail
  refine (f4.out _).mono ?_
  rintro e w10 ⟨v10, rfl, p10, b10⟩
  have B10 := Lib.hid (B9.out.trans (b10.mono B9.out.size))
  replace LO := Lib.hid (LO.out.below b10 LO.out.lt)
  replace HI := Lib.hid (HI.out.below b10 HI.out.lt)
  replace ONE := Lib.hid ((ONE.out.below b10).mono b10.size)
  obtain ⟨a10, d10, hv10⟩ := p10.len
  subst hv10
  clear p10
  clear b10
  go_wp2_with fail
  refine (fa.out 500000 0 _).mono ?_
  rintro e w11 ⟨rfl, b11⟩
  have B11 := Lib.hid (B10.out.trans (b11.mono B10.out.size))
  replace LO := Lib.hid (LO.out.below b11 LO.out.lt)
  replace HI := Lib.hid (HI.out.below b11 HI.out.lt)
  replace ONE := Lib.hid ((ONE.out.below b11).mono b11.size)
  clear b11
  go_wp2_with fail
  refine (fa.out 10 0 _).mono ?_
  rintro e w12 ⟨rfl, b12⟩
  have B12 := Lib.hid (B11.out.trans (b12.mono B11.out.size))
  replace LO := Lib.hid (LO.out.below b12 LO.out.lt)
  replace HI := Lib.hid (HI.out.below b12 HI.out.lt)
  replace ONE := Lib.hid ((ONE.out.below b12).mono b12.size)
  clear b12
  go_wp2_with fail
  refine (f5.out _).mono ?_
  rintro e w13 ⟨v13, rfl, p13, b13⟩
  have B13 := Lib.hid (B12.out.trans (b13.mono B12.out.size))
  replace LO := Lib.hid (LO.out.below b13 LO.out.lt)
  replace HI := Lib.hid (HI.out.below b13 HI.out.lt)
  replace ONE := Lib.hid ((ONE.out.below b13).mono b13.size)
  obtain ⟨a13, d13, hv13⟩ := p13.len
  subst hv13
  clear p13
  clear b13
  go_wp2_with fail
  refine (f6.out _).mono ?_
  rintro e w14 ⟨v14, u14, rfl, p14, q14, b14⟩
  have B14 := Lib.hid (B13.out.trans (b14.mono B13.out.size))
  replace LO := Lib.hid (LO.out.below b14 LO.out.lt)
  replace HI := Lib.hid (HI.out.below b14 HI.out.lt)
  replace ONE := Lib.hid ((ONE.out.below b14).mono b14.size)
  obtain ⟨_, a14, d14, hv14, _⟩ := p14
  obtain ⟨_, a14', d14', hv14', _⟩ := q14
  subst hv14
  subst hv14'
  clear b14
  go_wp2_with fail
  refine (fa.out 100 0 _).mono ?_
  rintro e w15 ⟨rfl, b15⟩
  have B15 := Lib.hid (B14.out.trans (b15.mono B14.out.size))
  replace LO := Lib.hid (LO.out.below b15 LO.out.lt)
  replace HI := Lib.hid (HI.out.below b15 HI.out.lt)
  replace ONE := Lib.hid ((ONE.out.below b15).mono b15.size)
  clear b15
  go_wp2_with fail
  refine (fa.out 100 200 _).mono ?_
  rintro e w16 ⟨rfl, b16⟩
  have B16 := Lib.hid (B15.out.trans (b16.mono B15.out.size))
  replace LO := Lib.hid (LO.out.below b16 LO.out.lt)
  replace HI := Lib.hid (HI.out.below b16 HI.out.lt)
  replace ONE := Lib.hid ((ONE.out.below b16).mono b16.size)
  clear b16
  have WA := Lib.hid (Has.new w16 #[.int .i64 0, .int .i64 0, .int .i64 0, .int .i64 0, .int .i64 0, .int .i64 100, .int .i64 0, .int .i64 8, .int .i64 0, .int .i64 0, .int .i64 100, .int .i64 200, .int .i64 0, .int .i64 0, .int .i64 0] 53)
  have hzW : w16.heap.size < (w16.alloc (.cells #[.int .i64 0, .int .i64 0, .int .i64 0, .int .i64 0, .int .i64 0, .int .i64 100, .int .i64 0, .int .i64 8, .int .i64 0, .int .i64 0, .int .i64 100, .int .i64 200, .int .i64 0, .int .i64 0, .int .i64 0] 53)).heap.size := by simp
  go_wp2_with fail
  refine (fa.out 0 0 _).mono ?_
  rintro e w17 ⟨rfl, b17⟩
  have b17' := ((Below.refl w16.heap.size w16).alloc (Nat.le_refl _) (.cells #[.int .i64 0, .int .i64 0, .int .i64 0, .int .i64 0, .int .i64 0, .int .i64 100, .int .i64 0, .int .i64 8, .int .i64 0, .int .i64 0, .int .i64 100, .int .i64 200, .int .i64 0, .int .i64 0, .int .i64 0] 53)).trans (b17.mono ((Below.refl w16.heap.size w16).alloc (Nat.le_refl _) (.cells #[.int .i64 0, .int .i64 0, .int .i64 0, .int .i64 0, .int .i64 0, .int .i64 100, .int .i64 0, .int .i64 8, .int .i64 0, .int .i64 0, .int .i64 100, .int .i64 200, .int .i64 0, .int .i64 0, .int .i64 0] 53)).size)
  have B17 := Lib.hid (B16.out.trans (b17'.mono B16.out.size))
  replace LO := Lib.hid (LO.out.below b17' LO.out.lt)
  replace HI := Lib.hid (HI.out.below b17' HI.out.lt)
  replace ONE := Lib.hid ((ONE.out.below b17').mono b17'.size)
  replace WA := Lib.hid (WA.out.below b17 hzW)
  clear hzW
  clear b17 b17'
  have q1 := (Has.new w17 #[.int .i64 0, .int .i64 0] 38).below ((Below.refl (w17.heap.size + 1) _).alloc (by simp) (.cells #[.slice (some ⟨w16.heap.size, 0, none⟩) 3 3, .slice (some ⟨w17.heap.size, 0, none⟩) 1 1, .int .i64 5, .slice none 0 0, .int .i64 10000, .int .i64 100, .int .i64 0, .int .i64 0, .int .i64 0, .int .i64 0, .int .i64 0] 26)) (by omega)
  have q2 := Has.new (w17.alloc (.cells #[.int .i64 0, .int .i64 0] 38)) #[.slice (some ⟨w16.heap.size, 0, none⟩) 3 3, .slice (some ⟨w17.heap.size, 0, none⟩) 1 1, .int .i64 5, .slice none 0 0, .int .i64 10000, .int .i64 100, .int .i64 0, .int .i64 0, .int .i64 0, .int .i64 0, .int .i64 0] 26
  have q3 := rints_new ((w17.alloc (.cells #[.int .i64 0, .int .i64 0] 38)).alloc (.cells #[.slice (some ⟨w16.heap.size, 0, none⟩) 3 3, .slice (some ⟨w17.heap.size, 0, none⟩) 1 1, .int .i64 5, .slice none 0 0, .int .i64 10000, .int .i64 100, .int .i64 0, .int .i64 0, .int .i64 0, .int .i64 0, .int .i64 0] 26)) [1] 3 (by simp)
  rw [World.size_alloc] at q2
  rw [show ((w17.alloc (.cells #[.int .i64 0, .int .i64 0] 38)).alloc (.cells #[.slice (some ⟨w16.heap.size, 0, none⟩) 3 3, .slice (some ⟨w17.heap.size, 0, none⟩) 1 1, .int .i64 5, .slice none 0 0, .int .i64 10000, .int .i64 100, .int .i64 0, .int .i64 0, .int .i64 0, .int .i64 0, .int .i64 0] 26)).heap.size = w17.heap.size + 1 + 1 by simp] at q3
  have q1 := q1.below ((Below.refl (w17.heap.size + 2) _).alloc (by simp) (.cells #[.int .i64 1] 3)) (by omega)
  have q2 := q2.below ((Below.refl (w17.heap.size + 2) _).alloc (by simp) (.cells #[.int .i64 1] 3)) (by omega)
  go_wp2_with fail
  replace LO := Lib.hid (LO.out.below ((((Below.refl w17.heap.size w17).alloc (Nat.le_refl _) (.cells #[.int .i64 0, .int .i64 0] 38)).alloc (by simp) (.cells #[.slice (some ⟨w16.heap.size, 0, none⟩) 3 3, .slice (some ⟨w17.heap.size, 0, none⟩) 1 1, .int .i64 5, .slice none 0 0, .int .i64 10000, .int .i64 100, .int .i64 0, .int .i64 0, .int .i64 0, .int .i64 0, .int .i64 0] 26)).alloc (by simp; omega) (.cells #[.int .i64 1] 3)) LO.out.lt)
  replace HI := Lib.hid (HI.out.below ((((Below.refl w17.heap.size w17).alloc (Nat.le_refl _) (.cells #[.int .i64 0, .int .i64 0] 38)).alloc (by simp) (.cells #[.slice (some ⟨w16.heap.size, 0, none⟩) 3 3, .slice (some ⟨w17.heap.size, 0, none⟩) 1 1, .int .i64 5, .slice none 0 0, .int .i64 10000, .int .i64 100, .int .i64 0, .int .i64 0, .int .i64 0, .int .i64 0, .int .i64 0] 26)).alloc (by simp; omega) (.cells #[.int .i64 1] 3)) HI.out.lt)
  replace ONE := Lib.hid ((ONE.out.below ((((Below.refl w17.heap.size w17).alloc (Nat.le_refl _) (.cells #[.int .i64 0, .int .i64 0] 38)).alloc (by simp) (.cells #[.slice (some ⟨w16.heap.size, 0, none⟩) 3 3, .slice (some ⟨w17.heap.size, 0, none⟩) 1 1, .int .i64 5, .slice none 0 0, .int .i64 10000, .int .i64 100, .int .i64 0, .int .i64 0, .int .i64 0, .int .i64 0, .int .i64 0] 26)).alloc (by simp; omega) (.cells #[.int .i64 1] 3))).mono ((((Below.refl w17.heap.size w17).alloc (Nat.le_refl _) (.cells #[.int .i64 0, .int .i64 0] 38)).alloc (by simp) (.cells #[.slice (some ⟨w16.heap.size, 0, none⟩) 3 3, .slice (some ⟨w17.heap.size, 0, none⟩) 1 1, .int .i64 5, .slice none 0 0, .int .i64 10000, .int .i64 100, .int .i64 0, .int .i64 0, .int .i64 0, .int .i64 0, .int .i64 0] 26)).alloc (by simp; omega) (.cells #[.int .i64 1] 3)).size)
  replace WA := Lib.hid (WA.out.below ((((Below.refl w17.heap.size w17).alloc (Nat.le_refl _) (.cells #[.int .i64 0, .int .i64 0] 38)).alloc (by simp) (.cells #[.slice (some ⟨w16.heap.size, 0, none⟩) 3 3, .slice (some ⟨w17.heap.size, 0, none⟩) 1 1, .int .i64 5, .slice none 0 0, .int .i64 10000, .int .i64 100, .int .i64 0, .int .i64 0, .int .i64 0, .int .i64 0, .int .i64 0] 26)).alloc (by simp; omega) (.cells #[.int .i64 1] 3)) WA.out.lt)
  have HO := Lib.hid (show Has (((w17.alloc (.cells #[.int .i64 0, .int .i64 0] 38)).alloc (.cells #[.slice (some ⟨w16.heap.size, 0, none⟩) 3 3, .slice (some ⟨w17.heap.size, 0, none⟩) 1 1, .int .i64 5, .slice none 0 0, .int .i64 10000, .int .i64 100, .int .i64 0, .int .i64 0, .int .i64 0, .int .i64 0, .int .i64 0] 26)).alloc (.cells #[.int .i64 1] 3)) w17.heap.size #[.int .i64 0, .int .i64 0] 38 from q1)
  have MS := Lib.hid (show Has (((w17.alloc (.cells #[.int .i64 0, .int .i64 0] 38)).alloc (.cells #[.slice (some ⟨w16.heap.size, 0, none⟩) 3 3, .slice (some ⟨w17.heap.size, 0, none⟩) 1 1, .int .i64 5, .slice none 0 0, .int .i64 10000, .int .i64 100, .int .i64 0, .int .i64 0, .int .i64 0, .int .i64 0, .int .i64 0] 26)).alloc (.cells #[.int .i64 1] 3)) (w17.heap.size + 1) #[.slice (some ⟨w16.heap.size, 0, none⟩) 3 3, .slice (some ⟨w17.heap.size, 0, none⟩) 1 1, .int .i64 5, .slice none 0 0, .int .i64 10000, .int .i64 100, .int .i64 0, .int .i64 0, .int .i64 0, .int .i64 0, .int .i64 0] 26 from q2)
  have LI := Lib.hid (show IntsAt (((w17.alloc (.cells #[.int .i64 0, .int .i64 0] 38)).alloc (.cells #[.slice (some ⟨w16.heap.size, 0, none⟩) 3 3, .slice (some ⟨w17.heap.size, 0, none⟩) 1 1, .int .i64 5, .slice none 0 0, .int .i64 10000, .int .i64 100, .int .i64 0, .int .i64 0, .int .i64 0, .int .i64 0, .int .i64 0] 26)).alloc (.cells #[.int .i64 1] 3)).heap.size (((w17.alloc (.cells #[.int .i64 0, .int .i64 0] 38)).alloc (.cells #[.slice (some ⟨w16.heap.size, 0, none⟩) 3 3, .slice (some ⟨w17.heap.size, 0, none⟩) 1 1, .int .i64 5, .slice none 0 0, .int .i64 10000, .int .i64 100, .int .i64 0, .int .i64 0, .int .i64 0, .int .i64 0, .int .i64 0] 26)).alloc (.cells #[.int .i64 1] 3)) (.slice (some ⟨w17.heap.size + 1 + 1, 0, none⟩) 1 1) [1] from q3)
  have BX5 := Lib.hid (B17.out.trans ((((((Below.refl w17.heap.size w17).alloc (Nat.le_refl _) (.cells #[.int .i64 0, .int .i64 0] 38)).alloc (by simp) (.cells #[.slice (some ⟨w16.heap.size, 0, none⟩) 3 3, .slice (some ⟨w17.heap.size, 0, none⟩) 1 1, .int .i64 5, .slice none 0 0, .int .i64 10000, .int .i64 100, .int .i64 0, .int .i64 0, .int .i64 0, .int .i64 0, .int .i64 0] 26)).alloc (by simp; omega) (.cells #[.int .i64 1] 3))).mono B17.out.size))
  generalize hXX5 : (((w17.alloc (.cells #[.int .i64 0, .int .i64 0] 38)).alloc (.cells #[.slice (some ⟨w16.heap.size, 0, none⟩) 3 3, .slice (some ⟨w17.heap.size, 0, none⟩) 1 1, .int .i64 5, .slice none 0 0, .int .i64 10000, .int .i64 100, .int .i64 0, .int .i64 0, .int .i64 0, .int .i64 0, .int .i64 0] 26)).alloc (.cells #[.int .i64 1] 3)) = X5 at *
  clear hXX5
  clear q1 q2 q3
  refine (f7.out _ _ _ _ _ (exR_at WA.out HO.out) LI.out).mono ?_
  rintro e w18 ⟨v18, u18, rfl, p18, q18, b18⟩
  have B18 := Lib.hid (BX5.out.trans (b18.mono BX5.out.size))
  replace LO := Lib.hid (LO.out.below b18 LO.out.lt)
  replace HI := Lib.hid (HI.out.below b18 HI.out.lt)
  replace ONE := Lib.hid ((ONE.out.below b18).mono b18.size)
  replace WA := Lib.hid (WA.out.below b18 WA.out.lt)
  replace HO := Lib.hid (HO.out.below b18 HO.out.lt)
  replace MS := Lib.hid (MS.out.below b18 MS.out.lt)
  replace LI := Lib.hid ((LI.out.below b18).mono b18.size)
  have BE := Lib.hid p18
  have AF := Lib.hid q18
  obtain ⟨_, a18, d18, hv18, _⟩ := p18
  obtain ⟨_, a18', d18', hv18', _⟩ := q18
  subst hv18
  subst hv18'
  clear b18
  have cc := MS.out
  obtain ⟨c0, c1, c2, c3, c4, c5, c6, c7, c8, c9, c10⟩ := msn_cells (m := exR) (vw := .slice (some ⟨w16.heap.size, 0, none⟩) 3 3) (vh := .slice (some ⟨w17.heap.size, 0, none⟩) 1 1) (vr := .slice none 0 0) cc
  clear cc
  simp only [exR] at c0 c1 c2 c3 c4 c5 c6 c7 c8 c9 c10
  go_wp2_with fail
  refine (f8.out _ _ _ _ _ (exR_at WA.out HO.out) (IntsAt.nil _ _)).mono ?_
  rintro e w19 ⟨v19, u19, rfl, p19, q19, b19⟩
  have B19 := Lib.hid (B18.out.trans (b19.mono B18.out.size))
  replace LO := Lib.hid (LO.out.below b19 LO.out.lt)
  replace HI := Lib.hid (HI.out.below b19 HI.out.lt)
  replace ONE := Lib.hid ((ONE.out.below b19).mono b19.size)
  replace WA := Lib.hid (WA.out.below b19 WA.out.lt)
  replace HO := Lib.hid (HO.out.below b19 HO.out.lt)
  replace MS := Lib.hid (MS.out.below b19 MS.out.lt)
  replace LI := Lib.hid ((LI.out.below b19).mono b19.size)
  replace BE := Lib.hid ((BE.out.below b19).mono b19.size)
  replace AF := Lib.hid ((AF.out.below b19).mono b19.size)
  have LG := Lib.hid p19
  have SM := Lib.hid q19
  obtain ⟨_, a19, d19, hv19, _⟩ := p19
  obtain ⟨_, a19', d19', hv19', _⟩ := q19
  subst hv19
  subst hv19'
  clear b19
  clear c0 c1 c2 c3 c4 c5 c6 c7 c8 c9 c10 WA HO MS LI
  go_wp2_with fail
  have dd : decide (([5, 15, 28] : List Int) = [5, 15, 28]) = true := by decide
  refine (same32_any _ _ [5, 15, 28] [5, 15, 28] _ ((BE.out.below ((Below.refl w19.heap.size w19).alloc (Nat.le_refl _) (.cells #[.int .i64 5, .int .i64 15, .int .i64 28] 3))).mono ((Below.refl w19.heap.size w19).alloc (Nat.le_refl _) (.cells #[.int .i64 5, .int .i64 15, .int .i64 28] 3)).size) (rints_new w19 [5, 15, 28] 3 (by simp))).mono ?_
  rintro e w20 ⟨rfl, b20⟩
  have b20' := ((Below.refl w19.heap.size w19).alloc (Nat.le_refl _) (.cells #[.int .i64 5, .int .i64 15, .int .i64 28] 3)).trans (b20.mono ((Below.refl w19.heap.size w19).alloc (Nat.le_refl _) (.cells #[.int .i64 5, .int .i64 15, .int .i64 28] 3)).size)
  have B20 := Lib.hid (B19.out.trans (b20'.mono B19.out.size))
  replace LO := Lib.hid (LO.out.below b20' LO.out.lt)
  replace HI := Lib.hid (HI.out.below b20' HI.out.lt)
  replace ONE := Lib.hid ((ONE.out.below b20').mono b20'.size)
  replace BE := Lib.hid ((BE.out.below b20').mono b20'.size)
  replace AF := Lib.hid ((AF.out.below b20').mono b20'.size)
  replace LG := Lib.hid ((LG.out.below b20').mono b20'.size)
  replace SM := Lib.hid ((SM.out.below b20').mono b20'.size)
  clear b20 b20'
  go_wp2_with fail
  have dd : decide (([5, 8, 28] : List Int) = [5, 8, 28]) = true := by decide
  refine (same32_any _ _ [5, 8, 28] [5, 8, 28] _ ((AF.out.below ((Below.refl w20.heap.size w20).alloc (Nat.le_refl _) (.cells #[.int .i64 5, .int .i64 8, .int .i64 28] 3))).mono ((Below.refl w20.heap.size w20).alloc (Nat.le_refl _) (.cells #[.int .i64 5, .int .i64 8, .int .i64 28] 3)).size) (rints_new w20 [5, 8, 28] 3 (by simp))).mono ?_
  rintro e w21 ⟨rfl, b21⟩
  have b21' := ((Below.refl w20.heap.size w20).alloc (Nat.le_refl _) (.cells #[.int .i64 5, .int .i64 8, .int .i64 28] 3)).trans (b21.mono ((Below.refl w20.heap.size w20).alloc (Nat.le_refl _) (.cells #[.int .i64 5, .int .i64 8, .int .i64 28] 3)).size)
  have B21 := Lib.hid (B20.out.trans (b21'.mono B20.out.size))
  replace LO := Lib.hid (LO.out.below b21' LO.out.lt)
  replace HI := Lib.hid (HI.out.below b21' HI.out.lt)
  replace ONE := Lib.hid ((ONE.out.below b21').mono b21'.size)
  replace BE := Lib.hid ((BE.out.below b21').mono b21'.size)
  replace AF := Lib.hid ((AF.out.below b21').mono b21'.size)
  replace LG := Lib.hid ((LG.out.below b21').mono b21'.size)
  replace SM := Lib.hid ((SM.out.below b21').mono b21'.size)
  clear b21 b21'
  go_wp2_with fail
  have dd : decide (([5, 15, 35] : List Int) = [5, 15, 35]) = true := by decide
  refine (same32_any _ _ [5, 15, 35] [5, 15, 35] _ ((LG.out.below ((Below.refl w21.heap.size w21).alloc (Nat.le_refl _) (.cells #[.int .i64 5, .int .i64 15, .int .i64 35] 3))).mono ((Below.refl w21.heap.size w21).alloc (Nat.le_refl _) (.cells #[.int .i64 5, .int .i64 15, .int .i64 35] 3)).size) (rints_new w21 [5, 15, 35] 3 (by simp))).mono ?_
  rintro e w22 ⟨rfl, b22⟩
  have b22' := ((Below.refl w21.heap.size w21).alloc (Nat.le_refl _) (.cells #[.int .i64 5, .int .i64 15, .int .i64 35] 3)).trans (b22.mono ((Below.refl w21.heap.size w21).alloc (Nat.le_refl _) (.cells #[.int .i64 5, .int .i64 15, .int .i64 35] 3)).size)
  have B22 := Lib.hid (B21.out.trans (b22'.mono B21.out.size))
  replace LO := Lib.hid (LO.out.below b22' LO.out.lt)
  replace HI := Lib.hid (HI.out.below b22' HI.out.lt)
  replace ONE := Lib.hid ((ONE.out.below b22').mono b22'.size)
  replace BE := Lib.hid ((BE.out.below b22').mono b22'.size)
  replace AF := Lib.hid ((AF.out.below b22').mono b22'.size)
  replace LG := Lib.hid ((LG.out.below b22').mono b22'.size)
  replace SM := Lib.hid ((SM.out.below b22').mono b22'.size)
  clear b22 b22'
  go_wp2_with fail
  refine (same32_any _ _ [5, 15, 35] [5, 15, 35] _ SM.out LG.out).mono ?_
  rintro e w23 ⟨rfl, b23⟩
  have B23 := Lib.hid (B22.out.trans (b23.mono B22.out.size))
  replace LO := Lib.hid (LO.out.below b23 LO.out.lt)
  replace HI := Lib.hid (HI.out.below b23 HI.out.lt)
  replace ONE := Lib.hid ((ONE.out.below b23).mono b23.size)
  replace BE := Lib.hid ((BE.out.below b23).mono b23.size)
  replace AF := Lib.hid ((AF.out.below b23).mono b23.size)
  replace LG := Lib.hid ((LG.out.below b23).mono b23.size)
  replace SM := Lib.hid ((SM.out.below b23).mono b23.size)
  clear b23
  clear BE AF LG SM
  go_wp2_with fail
  refine (wpIn_wide (n := 9)).1 ?_
  refine wpIn_region_sched (lets_wide _) 15 (fun X => Has X w4.heap.size #[.int .i64 (-1), .int .i64 (-2)] 38 ∧ Has X (w4.heap.size + 1) #[.int .i64 12, .int .i64 2] 38) (by kernel_rfl) (by kernel_rfl) (by kernel_rfl) fun hH inv0 => ?_
  have hD := Below.drew (Below.refl w23.heap.size w23)
  replace LO := Lib.hid (LO.out.below hD LO.out.lt)
  replace HI := Lib.hid (HI.out.below hD HI.out.lt)
  replace ONE := Lib.hid ((ONE.out.below hD).mono hD.size)
  have BXD := Lib.hid (B23.out.trans (hD.mono B23.out.size))
  clear hD
  generalize hXXD : w23.drew = XD at *
  clear hXXD
  refine sched_take hH (i := 0) (v := .bool true) (drop_get rfl) (by omega) inv0 (by kernel_rfl) (by kernel_rfl) rfl (fun X hX => ?_) fun inv1 => ?_
  · go_simp
  simp only [Act.put, List.setIfInBounds_toArray, List.set_cons_zero, List.set_cons_succ]
  clear inv0
  refine sched_take hH (i := 1) (v := .bool true) (drop_get rfl) (by omega) inv1 (by kernel_rfl) (by kernel_rfl) rfl (fun X hX => ?_) fun inv2 => ?_
  · go_simp
  simp only [Act.put, List.setIfInBounds_toArray, List.set_cons_zero, List.set_cons_succ]
  clear inv1
  refine sched_take hH (i := 2) (v := .agg #[.int .i64 (-1), .int .i64 (-2)]) (drop_get rfl) (by omega) inv2 (by kernel_rfl) (by kernel_rfl) rfl (fun X hX => ?_) fun inv3 => ?_
  · have hx := hX.1.cell (i := 0) rfl; have hy := hX.1.cell (i := 1) rfl; go_simp
  simp only [Act.put, List.setIfInBounds_toArray, List.set_cons_zero, List.set_cons_succ]
  clear inv2
  have inv4 := HeadInv.put inv3 (j := 3) (by kernel_rfl) (by omega)
  clear inv3
  refine sched_all (rs := [3]) (by kernel_rfl) (by simp) ⟨LO.out, HI.out⟩ (by simp) (fun i hi' => ?_)
  simp only [List.mem_cons, List.not_mem_nil, or_false] at hi'
  subst hi'
  refine okOp_call (drop_get rfl) rfl (f := 13) (args := #[.int .i64 (-1), .int .i64 (-2)]) (by go_simp) (fa.out (-1) (-2) XD) ?_
  rintro e w24 ⟨rfl, b24⟩
  refine ⟨_, rfl, ?_⟩
  simp only [Act.put, List.setIfInBounds_toArray, List.set_cons_zero, List.set_cons_succ]
  have B24 := Lib.hid (BXD.out.trans (b24.mono BXD.out.size))
  replace LO := Lib.hid (LO.out.below b24 LO.out.lt)
  replace HI := Lib.hid (HI.out.below b24 HI.out.lt)
  replace ONE := Lib.hid ((ONE.out.below b24).mono b24.size)
  clear b24
  refine sched_take hH (i := 4) (v := .bool true) (drop_get rfl) (by omega) inv4 (by kernel_rfl) (by kernel_rfl) rfl (fun X hX => ?_) fun inv5 => ?_
  · go_simp
  simp only [Act.put, List.setIfInBounds_toArray, List.set_cons_zero, List.set_cons_succ]
  clear inv4
  refine sched_take hH (i := 5) (v := .bool true) (drop_get rfl) (by omega) inv5 (by kernel_rfl) (by kernel_rfl) rfl (fun X hX => ?_) fun inv6 => ?_
  · go_simp
  simp only [Act.put, List.setIfInBounds_toArray, List.set_cons_zero, List.set_cons_succ]
  clear inv5
  refine sched_take hH (i := 6) (v := .bool true) (drop_get rfl) (by omega) inv6 (by kernel_rfl) (by kernel_rfl) rfl (fun X hX => ?_) fun inv7 => ?_
  · go_simp
  simp only [Act.put, List.setIfInBounds_toArray, List.set_cons_zero, List.set_cons_succ]
  clear inv6
  refine sched_take hH (i := 7) (v := .agg #[.int .i64 12, .int .i64 2]) (drop_get rfl) (by omega) inv7 (by kernel_rfl) (by kernel_rfl) rfl (fun X hX => ?_) fun inv8 => ?_
  · have hx := hX.2.cell (i := 0) rfl; have hy := hX.2.cell (i := 1) rfl; go_simp
  simp only [Act.put, List.setIfInBounds_toArray, List.set_cons_zero, List.set_cons_succ]
  clear inv7
  have inv9 := HeadInv.put inv8 (j := 8) (by kernel_rfl) (by omega)
  clear inv8
  refine sched_all (rs := [8]) (by kernel_rfl) (by simp) ⟨LO.out, HI.out⟩ (by simp) (fun i hi' => ?_)
  simp only [List.mem_cons, List.not_mem_nil, or_false] at hi'
  subst hi'
  refine okOp_call (drop_get rfl) rfl (f := 13) (args := #[.int .i64 12, .int .i64 2]) (by go_simp) (fa.out 12 2 w24) ?_
  rintro e w25 ⟨rfl, b25⟩
  refine ⟨_, rfl, ?_⟩
  simp only [Act.put, List.setIfInBounds_toArray, List.set_cons_zero, List.set_cons_succ]
  have B25 := Lib.hid (B24.out.trans (b25.mono B24.out.size))
  replace LO := Lib.hid (LO.out.below b25 LO.out.lt)
  replace HI := Lib.hid (HI.out.below b25 HI.out.lt)
  replace ONE := Lib.hid ((ONE.out.below b25).mono b25.size)
  clear b25
  refine sched_take hH (i := 9) (v := .bool true) (drop_get rfl) (by omega) inv9 (by kernel_rfl) (by kernel_rfl) rfl (fun X hX => ?_) fun inv10 => ?_
  · go_simp
  simp only [Act.put, List.setIfInBounds_toArray, List.set_cons_zero, List.set_cons_succ]
  clear inv9
  refine sched_take hH (i := 10) (v := .bool true) (drop_get rfl) (by omega) inv10 (by kernel_rfl) (by kernel_rfl) rfl (fun X hX => ?_) fun inv11 => ?_
  · go_simp
  simp only [Act.put, List.setIfInBounds_toArray, List.set_cons_zero, List.set_cons_succ]
  clear inv10
  refine sched_take hH (i := 11) (v := .bool true) (drop_get rfl) (by omega) inv11 (by kernel_rfl) (by kernel_rfl) rfl (fun X hX => ?_) fun inv12 => ?_
  · go_simp
  simp only [Act.put, List.setIfInBounds_toArray, List.set_cons_zero, List.set_cons_succ]
  clear inv11
  refine sched_take hH (i := 12) (v := .slice a7 1 (1 + d7)) (drop_get rfl) (by omega) inv12 (by kernel_rfl) (by kernel_rfl) rfl (fun X hX => ?_) fun inv13 => ?_
  · go_simp
  simp only [Act.put, List.setIfInBounds_toArray, List.set_cons_zero, List.set_cons_succ]
  clear inv12
  have inv14 := HeadInv.put inv13 (j := 13) (by kernel_rfl) (by omega)
  clear inv13
  refine sched_all (rs := [13]) (by kernel_rfl) (by simp) ⟨LO.out, HI.out⟩ (by simp) (fun i hi' => ?_)
  simp only [List.mem_cons, List.not_mem_nil, or_false] at hi'
  subst hi'
  refine okOp_call (drop_get rfl) rfl (f := 13) (args := #[.int .i64 3, .int .i64 4]) (by go_simp) (fa.out 3 4 w25) ?_
  rintro e w26 ⟨rfl, b26⟩
  refine ⟨_, rfl, ?_⟩
  simp only [Act.put, List.setIfInBounds_toArray, List.set_cons_zero, List.set_cons_succ]
  have B26 := Lib.hid (B25.out.trans (b26.mono B25.out.size))
  replace LO := Lib.hid (LO.out.below b26 LO.out.lt)
  replace HI := Lib.hid (HI.out.below b26 HI.out.lt)
  replace ONE := Lib.hid ((ONE.out.below b26).mono b26.size)
  clear b26
  have inv15 := HeadInv.put inv14 (j := 14) (by kernel_rfl) (by omega)
  clear inv14
  refine sched_all (rs := [14]) (by kernel_rfl) (by simp) ⟨LO.out, HI.out⟩ (by simp) (fun i hi' => ?_)
  simp only [List.mem_cons, List.not_mem_nil, or_false] at hi'
  subst hi'
  refine okOp_run (drop_get rfl) rfl (v := .slice (some ⟨w26.heap.size, 0, none⟩) 1 1) (w' := w26.alloc (.cells #[.int .i64 3, .int .i64 4] 38)) (by go_simp) ?_
  simp only [Act.put, List.setIfInBounds_toArray, List.set_cons_zero, List.set_cons_succ]
  replace LO := Lib.hid (LO.out.below ((Below.refl w26.heap.size w26).alloc (Nat.le_refl _) (.cells #[.int .i64 3, .int .i64 4] 38)) LO.out.lt)
  replace HI := Lib.hid (HI.out.below ((Below.refl w26.heap.size w26).alloc (Nat.le_refl _) (.cells #[.int .i64 3, .int .i64 4] 38)) HI.out.lt)
  replace ONE := Lib.hid ((ONE.out.below ((Below.refl w26.heap.size w26).alloc (Nat.le_refl _) (.cells #[.int .i64 3, .int .i64 4] 38))).mono ((Below.refl w26.heap.size w26).alloc (Nat.le_refl _) (.cells #[.int .i64 3, .int .i64 4] 38)).size)
  have TW := Lib.hid (show PtsAt (w26.alloc (.cells #[.int .i64 3, .int .i64 4] 38)).heap.size (w26.alloc (.cells #[.int .i64 3, .int .i64 4] 38)) (.slice (some ⟨w26.heap.size, 0, none⟩) 1 1) [⟨3, 4⟩] from pts_one w26 3 4)
  have BXE := Lib.hid (B26.out.trans ((((Below.refl w26.heap.size w26).alloc (Nat.le_refl _) (.cells #[.int .i64 3, .int .i64 4] 38))).mono B26.out.size))
  generalize hXXE : (w26.alloc (.cells #[.int .i64 3, .int .i64 4] 38)) = XE at *
  clear hXXE
  clear inv15 hH
  refine sched_done (by kernel_rfl) ⟨LO.out, HI.out⟩ ?_
  simp only [List.drop_succ_cons, List.drop_zero]
  gi_wp2_with fail
  have dd : decide (([⟨3, 4⟩] : List Pt) = [⟨3, 4⟩]) = true := by decide
  refine ⟨trivial, (callsIn_wide.2 (samepts_any _ _ [⟨3, 4⟩] [⟨3, 4⟩] _ ONE.out TW.out)).mono ?_⟩
  rintro e wf ⟨rfl, bf⟩
  have BF := Lib.hid (BXE.out.trans (bf.mono BXE.out.size))
  clear bf LO HI ONE TW
  rw [dd]
  gi_wp2
  go_wp2
  go_ret
  exact ⟨rfl, BF.out⟩
end Go.Proofs.Ytoekcefhphcjjaa
