/- mission.Valid, has. -/
import Derived.Test.YtjnjmpakmgmdbaaValidD
namespace Go.Proofs.Ytjnjmpakmgmdbaa
open Go.RowKit
attribute [local irreducible] wpQuiet

noncomputable def condB (m : Msn) : Nat → Bool
  | 0 => sizesB m
  | 1 => waysB m.ways
  | 2 => goValid m.home
  | 3 => rocksB m.rocks
  | 4 => inB m.start 0 100000 && inB m.speed 1 20000
  | 5 => inB m.part 0 500 && inB m.flow 0 5000
  | 6 => inB m.idle 0 1000 && inB m.drive 0 1000
  | 7 => inB m.battery 0 1000000000 && inB m.deadline 0 1000000000
  | 8 => decide (grownV m ≤ 100000)
  | _ => true
def clV (B : Nat) : Nat → Value
  | 0 => .func (.func 39) #[] #[.pointer (some ⟨B, 0, none⟩)]
  | 1 => .func (.func 40) #[] #[.pointer (some ⟨B, 0, none⟩)]
  | 2 => .func (.func 42) #[] #[.pointer (some ⟨B, 0, none⟩)]
  | 3 => .func (.func 44) #[] #[.pointer (some ⟨B, 0, none⟩)]
  | 4 => .func (.func 47) #[] #[.pointer (some ⟨B, 0, none⟩)]
  | 5 => .func (.func 49) #[] #[.pointer (some ⟨B, 0, none⟩)]
  | 6 => .func (.func 50) #[] #[.pointer (some ⟨B, 0, none⟩)]
  | 7 => .func (.func 51) #[] #[.pointer (some ⟨B, 0, none⟩)]
  | _ => .func (.func 52) #[] #[.pointer (some ⟨B, 0, none⟩)]
noncomputable def validB (m : Msn) : Bool := (List.range 9).all (condB m)
theorem validB_all (m : Msn) : validB m = true ↔ ∀ j, j < 9 → condB m j = true := by simp [validB, List.all_eq_true]

theorem sizesB_true {m : Msn} (h : sizesB m = true) : 2 ≤ m.ways.length ∧ m.ways.length ≤ 41 ∧ m.rocks.length ≤ 100 := by simpa [sizesB] using h

/-- what a valid mission has -/
structure VMsn (m : Msn) : Prop where
  n2 : 2 ≤ m.ways.length
  n41 : m.ways.length ≤ 41
  nr : m.rocks.length ≤ 100
  ways : waysB m.ways = true
  home : goValid m.home = true
  rocks : rocksB m.rocks = true
  start : 0 ≤ m.start ∧ m.start ≤ 100000
  leg : legOk m
  idle : 0 ≤ m.idle ∧ m.idle ≤ 1000
  drive : 0 ≤ m.drive ∧ m.drive ≤ 1000
  battery : 0 ≤ m.battery ∧ m.battery ≤ 1000000000
  deadline : 0 ≤ m.deadline ∧ m.deadline ≤ 1000000000
  grown : grownV m ≤ 100000
theorem validB_iff (m : Msn) : validB m = true ↔ VMsn m := by
  rw [validB_all]
  constructor
  · intro h
    have h0 := h 0 (by omega); have h1 := h 1 (by omega); have h2 := h 2 (by omega); have h3 := h 3 (by omega); have h4 := h 4 (by omega)
    have h5 := h 5 (by omega); have h6 := h 6 (by omega); have h7 := h 7 (by omega); have h8 := h 8 (by omega)
    simp only [condB, Bool.and_eq_true] at h0 h1 h2 h3 h4 h5 h6 h7 h8
    have s := sizesB_true h0
    have a := inB_true h4.1; have b := inB_true h4.2; have c := inB_true h5.1; have d := inB_true h5.2
    exact ⟨s.1, s.2.1, s.2.2, h1, h2, h3, a, ⟨b.1, b.2, c.1, c.2, d.1, d.2⟩, inB_true h6.1, inB_true h6.2, inB_true h7.1, inB_true h7.2, by simpa using h8⟩
  · intro v j hj
    obtain ⟨n2, n41, nr, ways, home, rocks, start, ⟨l1, l2, l3, l4, l5, l6⟩, idle, drive, battery, deadline, grown⟩ := v
    match j, hj with
    | 0, _ => simp [condB, sizesB]; omega
    | 1, _ => exact ways
    | 2, _ => exact home
    | 3, _ => exact rocks
    | 4, _ => simp [condB, inB]; omega
    | 5, _ => simp [condB, inB]; omega
    | 6, _ => simp [condB, inB]; omega
    | 7, _ => simp [condB, inB]; omega
    | 8, _ => simpa [condB] using grown

theorem conds_any (B : Nat) (m : Msn) (vw vh vr : Value) (w : World) (H : MsnBox w B m vw vh vr) (hm : MsnAt w.heap.size w m vw vh vr) :
    ∀ k, k < 9 → (∀ j, j < k → condB m j = true) → Calls Try.prog 55 #[clV B k] w fun e w' => e = .returned (.bool (!condB m k)) ∧ Below w.heap.size w w' := by
  obtain ⟨hw, hh, hr⟩ := hm
  intro k hk hj
  match k, hk, hj with
  | 0, _, _ => exact v10_1 _ _ w (v1_any B m vw vh vr w H hw hr)
  | 1, _, hj => exact v10_2 _ _ w (v2_any B m vw vh vr w H hw (by have := sizesB_true (hj 0 (by omega)); omega))
  | 2, _, _ => exact v10_3 _ _ w (v3_any B m vw vh vr w H hh)
  | 3, _, _ => exact v10_4 _ _ w (v4_any B m vw vh vr w H hr)
  | 4, _, _ => exact v10_5 _ _ w (v5_any B m vw vh vr w H)
  | 5, _, _ => exact v10_6 _ _ w (v6_any B m vw vh vr w H)
  | 6, _, _ => exact v10_7 _ _ w (v7_any B m vw vh vr w H)
  | 7, _, _ => exact v10_8 _ _ w (v8_any B m vw vh vr w H)
  | 8, _, hj =>
    have s := sizesB_true (hj 0 (by omega))
    have h4 := hj 4 (by omega)
    have h5 := hj 5 (by omega)
    simp only [condB, Bool.and_eq_true] at h4 h5
    have a := inB_true h4.1; have b := inB_true h4.2; have c := inB_true h5.1; have d := inB_true h5.2
    exact v10_9 _ _ w (v9_any B m vw vh vr w H ⟨b.1, b.2, c.1, c.2, d.1, d.2⟩ a hw s.1 s.2.1 (hj 1 (by omega)))

set_option maxRecDepth 4000 in
theorem valid_any (m : Msn) (vw vh vr : Value) (w : World) (hm : MsnAt w.heap.size w m vw vh vr) :
    Calls Try.prog 19 #[.agg (msnCells m vw vh vr)] w fun e w' => e = .returned (.bool (validB m)) ∧ Below w.heap.size w w' := by
  have HB : MsnBox (w.alloc (.cells (msnCells m vw vh vr) 26)) w.heap.size m vw vh vr := Has.new w _ _
  have hB1 : Below w.heap.size w (w.alloc (.cells (msnCells m vw vh vr) 26)) := (Below.refl _ _).alloc (Nat.le_refl _) _
  have HB' := Lib.hid HB
  have hB1' := Lib.hid hB1
  have hm' := Lib.hid hm
  clear HB hB1 hm
  unfold msnCells at *
  go_enter Try.func19, Try.ntmps19
  go_wp2_with fail
  refine Calls.mono (containsConds_any (w.heap.size + 1) 9 (by omega) (clV w.heap.size) (condB m) _ ?hc ?hC ?hb) ?_
  case hb => simp
  case hc =>
    intro j hj
    match j, hj with
    | 0, _ => simp [go_sem, clV]
    | 1, _ => simp [go_sem, clV]
    | 2, _ => simp [go_sem, clV]
    | 3, _ => simp [go_sem, clV]
    | 4, _ => simp [go_sem, clV]
    | 5, _ => simp [go_sem, clV]
    | 6, _ => simp [go_sem, clV]
    | 7, _ => simp [go_sem, clV]
    | 8, _ => simp [go_sem, clV]
  case hC =>
    intro k hk hj w1 hB
    have b1 := (hB1'.out.alloc (by simp) _).trans (hB.mono (by first | omega | (simp; done) | (simp; omega)))
    have h1 : MsnBox w1 w.heap.size m vw vh vr := by
      refine (Has.below HB'.out ?_ (by simp : w.heap.size < w.heap.size + 1))
      exact (((Below.refl _ _).alloc (by simp) _).trans (hB.mono (by first | omega | (simp; done) | (simp; omega))))
    exact conds_any w.heap.size m vw vh vr w1 h1 ((hm'.out.below b1).mono b1.size) k hk hj
  rintro e w1 ⟨rfl, hb1⟩
  go_wp2
  go_ret
  refine ⟨ret_bool ?_, ?_⟩
  · rw [Bool.eq_iff_iff, validB_all]; simp
  · exact (hB1'.out.alloc (by simp) _).trans (hb1.mono (by first | omega | (simp; done) | (simp; omega)))
end Go.Proofs.Ytjnjmpakmgmdbaa
