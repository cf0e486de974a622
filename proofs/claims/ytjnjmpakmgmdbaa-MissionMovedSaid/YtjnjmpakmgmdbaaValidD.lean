/- mission.Valid: the conditions in order; mission.Valid, has. | mission.Valid, has. -/
import Derived.Test.YtjnjmpakmgmdbaaValidA
import Derived.Test.YtjnjmpakmgmdbaaGrown
import Derived.LoopTactic
namespace Go.Proofs.Ytjnjmpakmgmdbaa
open Go.RowKit
attribute [local irreducible] wpQuiet

theorem v9_any (B : Nat) (m : Msn) (vw vh vr : Value) (w : World) (H : MsnBox w B m vw vh vr) (hm : legOk m) (hs : 0 ≤ m.start ∧ m.start ≤ 100000) (hw : WaysAt w.heap.size w vw m.ways) (h2 : 2 ≤ m.ways.length) (h41 : m.ways.length ≤ 41) (hwb : waysB m.ways = true) :
    Calls Try.prog 52 #[.pointer (some ⟨B, 0, none⟩)] w fun e w' => e = .returned (.bool (decide (grownV m ≤ 100000))) ∧ Below w.heap.size w w' := by
  obtain ⟨c0, c1, c2, c3, c4, c5, c6, c7, c8, c9, c10⟩ := msn_cells H
  have hg := grown_any m vw vh vr w hm hs hw h2 h41 hwb
  have hg' := Lib.hid hg
  clear hg hm hs hw h2 h41 hwb
  unfold msnCells at hg'
  go_enter Try.func52, Try.ntmps52
  go_wp2_with (go_at_call 53; refine (hg'.out).mono ?_; rintro e w1 ⟨rfl, hb1⟩; have hz1 := hb1.size; try simp at hz1)
  go_ret
  exact ⟨rfl, by repeat (first | exact Below.refl _ _ | assumption | apply Below.drew | refine Below.setCell ?_ (by first | omega | (simp; done) | (simp; omega)) _ | refine Below.alloc ?_ (by first | omega | (simp; done) | (simp; omega)) _ | refine Below.call (by assumption) ?_ (by first | omega | (simp; done) | (simp; omega)))⟩

theorem v10_1 (B : Addr) (c : Bool) (w : World) (h : Calls Try.prog 39 #[.pointer (some B)] w fun e w' => e = .returned (.bool c) ∧ Below w.heap.size w w') :
    Calls Try.prog 55 #[.func (.func 39) #[] #[.pointer (some B)]] w fun e w' => e = .returned (.bool (!c)) ∧ Below w.heap.size w w' := by
  have h' := Lib.hid h
  clear h
  go_enter Try.func55, Try.ntmps55
  go_wp2_with (go_at_call 39; refine (h'.out).mono ?_; rintro e w1 ⟨rfl, hb1⟩; have hz1 := hb1.size; try simp at hz1)
  go_ret
  exact ⟨rfl, hb1⟩
theorem v10_2 (B : Addr) (c : Bool) (w : World) (h : Calls Try.prog 40 #[.pointer (some B)] w fun e w' => e = .returned (.bool c) ∧ Below w.heap.size w w') :
    Calls Try.prog 55 #[.func (.func 40) #[] #[.pointer (some B)]] w fun e w' => e = .returned (.bool (!c)) ∧ Below w.heap.size w w' := by
  have h' := Lib.hid h
  clear h
  go_enter Try.func55, Try.ntmps55
  go_wp2_with (go_at_call 40; refine (h'.out).mono ?_; rintro e w1 ⟨rfl, hb1⟩; have hz1 := hb1.size; try simp at hz1)
  go_ret
  exact ⟨rfl, hb1⟩
theorem v10_3 (B : Addr) (c : Bool) (w : World) (h : Calls Try.prog 42 #[.pointer (some B)] w fun e w' => e = .returned (.bool c) ∧ Below w.heap.size w w') :
    Calls Try.prog 55 #[.func (.func 42) #[] #[.pointer (some B)]] w fun e w' => e = .returned (.bool (!c)) ∧ Below w.heap.size w w' := by
  have h' := Lib.hid h
  clear h
  go_enter Try.func55, Try.ntmps55
  go_wp2_with (go_at_call 42; refine (h'.out).mono ?_; rintro e w1 ⟨rfl, hb1⟩; have hz1 := hb1.size; try simp at hz1)
  go_ret
  exact ⟨rfl, hb1⟩
theorem v10_4 (B : Addr) (c : Bool) (w : World) (h : Calls Try.prog 44 #[.pointer (some B)] w fun e w' => e = .returned (.bool c) ∧ Below w.heap.size w w') :
    Calls Try.prog 55 #[.func (.func 44) #[] #[.pointer (some B)]] w fun e w' => e = .returned (.bool (!c)) ∧ Below w.heap.size w w' := by
  have h' := Lib.hid h
  clear h
  go_enter Try.func55, Try.ntmps55
  go_wp2_with (go_at_call 44; refine (h'.out).mono ?_; rintro e w1 ⟨rfl, hb1⟩; have hz1 := hb1.size; try simp at hz1)
  go_ret
  exact ⟨rfl, hb1⟩
theorem v10_5 (B : Addr) (c : Bool) (w : World) (h : Calls Try.prog 47 #[.pointer (some B)] w fun e w' => e = .returned (.bool c) ∧ Below w.heap.size w w') :
    Calls Try.prog 55 #[.func (.func 47) #[] #[.pointer (some B)]] w fun e w' => e = .returned (.bool (!c)) ∧ Below w.heap.size w w' := by
  have h' := Lib.hid h
  clear h
  go_enter Try.func55, Try.ntmps55
  go_wp2_with (go_at_call 47; refine (h'.out).mono ?_; rintro e w1 ⟨rfl, hb1⟩; have hz1 := hb1.size; try simp at hz1)
  go_ret
  exact ⟨rfl, hb1⟩
theorem v10_6 (B : Addr) (c : Bool) (w : World) (h : Calls Try.prog 49 #[.pointer (some B)] w fun e w' => e = .returned (.bool c) ∧ Below w.heap.size w w') :
    Calls Try.prog 55 #[.func (.func 49) #[] #[.pointer (some B)]] w fun e w' => e = .returned (.bool (!c)) ∧ Below w.heap.size w w' := by
  have h' := Lib.hid h
  clear h
  go_enter Try.func55, Try.ntmps55
  go_wp2_with (go_at_call 49; refine (h'.out).mono ?_; rintro e w1 ⟨rfl, hb1⟩; have hz1 := hb1.size; try simp at hz1)
  go_ret
  exact ⟨rfl, hb1⟩
theorem v10_7 (B : Addr) (c : Bool) (w : World) (h : Calls Try.prog 50 #[.pointer (some B)] w fun e w' => e = .returned (.bool c) ∧ Below w.heap.size w w') :
    Calls Try.prog 55 #[.func (.func 50) #[] #[.pointer (some B)]] w fun e w' => e = .returned (.bool (!c)) ∧ Below w.heap.size w w' := by
  have h' := Lib.hid h
  clear h
  go_enter Try.func55, Try.ntmps55
  go_wp2_with (go_at_call 50; refine (h'.out).mono ?_; rintro e w1 ⟨rfl, hb1⟩; have hz1 := hb1.size; try simp at hz1)
  go_ret
  exact ⟨rfl, hb1⟩
theorem v10_8 (B : Addr) (c : Bool) (w : World) (h : Calls Try.prog 51 #[.pointer (some B)] w fun e w' => e = .returned (.bool c) ∧ Below w.heap.size w w') :
    Calls Try.prog 55 #[.func (.func 51) #[] #[.pointer (some B)]] w fun e w' => e = .returned (.bool (!c)) ∧ Below w.heap.size w w' := by
  have h' := Lib.hid h
  clear h
  go_enter Try.func55, Try.ntmps55
  go_wp2_with (go_at_call 51; refine (h'.out).mono ?_; rintro e w1 ⟨rfl, hb1⟩; have hz1 := hb1.size; try simp at hz1)
  go_ret
  exact ⟨rfl, hb1⟩
theorem v10_9 (B : Addr) (c : Bool) (w : World) (h : Calls Try.prog 52 #[.pointer (some B)] w fun e w' => e = .returned (.bool c) ∧ Below w.heap.size w w') :
    Calls Try.prog 55 #[.func (.func 52) #[] #[.pointer (some B)]] w fun e w' => e = .returned (.bool (!c)) ∧ Below w.heap.size w w' := by
  have h' := Lib.hid h
  clear h
  go_enter Try.func55, Try.ntmps55
  go_wp2_with (go_at_call 52; refine (h'.out).mono ?_; rintro e w1 ⟨rfl, hb1⟩; have hz1 := hb1.size; try simp at hz1)
  go_ret
  exact ⟨rfl, hb1⟩

theorem indexConds_any (b n : Nat) (hn : n ≤ 1000) (cl : Nat → Value) (conds : Nat → Bool) (w : World) (hc : ∀ j, j < n → w.cell? ⟨b, j, none⟩ = some (cl j))
    (hC : ∀ k, k < n → (∀ j, j < k → conds j = true) → ∀ w1, Below w.heap.size w w1 → Calls Try.prog 55 #[cl k] w1 fun e w' => e = .returned (.bool (!conds k)) ∧ Below w1.heap.size w1 w') (hb : b < w.heap.size) :
    Calls Try.prog 82 #[.slice (some ⟨b, 0, none⟩) n n, .func (.func 55) #[] #[]] w (FoundQ (!decide (∀ j, j < n → conds j = true)) w) := by
  have hcH := Lib.hid hc
  have hCH := Lib.hid hC
  clear hc hC
  go_enter Try.func82, Try.ntmps82
  go_wp2
  go_loopw [8] (fun i wr => ∃ k : Nat, k ≤ n ∧ i = .int .i64 k ∧ (∀ j, j < k → conds j = true) ∧ Below w.heap.size w wr) (fun i _ => n - (intOf i).toNat)
  case atStart => exact ⟨0, Nat.zero_le _, rfl, fun j h => by omega, Below.refl _ _⟩
  case round =>
    obtain ⟨k, hk, rfl, hall, hB⟩ := hrel
    by_cases hlt : k < n
    · have c1 := (hB.cell (p := ⟨b, k, none⟩) hb).trans (hcH.out k hlt)
      have hv := hCH.out k hlt hall wr hB
      have hall' := Lib.hid hall
      have hv' := Lib.hid hv
      clear hall hv
      have hz := hB.size
      cases hpl : conds k
      · have hr : Hid (decide (∀ j, j < n → conds j = true) = false) := by
          show decide (∀ j, j < n → conds j = true) = false
          simp only [decide_eq_false_iff_not]
          intro h
          have := h k hlt
          rw [hpl] at this
          cases this
        rw [hpl] at hv'
        have hpl' := Lib.hid hpl
        clear hpl
        go_wp2_with (go_at_call 55; refine (hv'.out).mono ?_; rintro e w1 ⟨rfl, hb1⟩; have hz1 := hb1.size; try simp at hz1)
        go_ret
        exact ⟨k, rfl, by omega, by omega, by rw [hr.out]; simp, by repeat (first | exact Below.refl _ _ | assumption | apply Below.drew | refine Below.setCell ?_ (by first | omega | (simp; done) | (simp; omega)) _ | refine Below.alloc ?_ (by first | omega | (simp; done) | (simp; omega)) _ | refine Below.call (by assumption) ?_ (by first | omega | (simp; done) | (simp; omega)))⟩
      · rw [hpl] at hv'
        have hpl' := Lib.hid hpl
        clear hpl
        go_wp2_with (go_at_call 55; refine (hv'.out).mono ?_; rintro e w1 ⟨rfl, hb1⟩; have hz1 := hb1.size; try simp at hz1)
        go_roundw
        case rel =>
          refine ⟨k + 1, by omega, by go_num, fun j hj => ?_, by repeat (first | exact Below.refl _ _ | assumption | apply Below.drew | refine Below.setCell ?_ (by first | omega | (simp; done) | (simp; omega)) _ | refine Below.alloc ?_ (by first | omega | (simp; done) | (simp; omega)) _ | refine Below.call (by assumption) ?_ (by first | omega | (simp; done) | (simp; omega)))⟩
          by_cases e : j = k
          · rw [e]; exact hpl'.out
          · exact hall'.out j (by omega)
        case measure => simp [intOf]; omega
    · have hr : Hid (decide (∀ j, j < n → conds j = true) = true) := by
        show decide (∀ j, j < n → conds j = true) = true
        simp only [decide_eq_true_eq]
        intro j hj
        exact hall j (by omega)
      clear hall
      go_wp2
      go_ret
      exact ⟨-1, rfl, by omega, by omega, by rw [hr.out]; simp, hB⟩

theorem containsConds_any (b n : Nat) (hn : n ≤ 1000) (cl : Nat → Value) (conds : Nat → Bool) (w : World) (hc : ∀ j, j < n → w.cell? ⟨b, j, none⟩ = some (cl j))
    (hC : ∀ k, k < n → (∀ j, j < k → conds j = true) → ∀ w1, Below w.heap.size w w1 → Calls Try.prog 55 #[cl k] w1 fun e w' => e = .returned (.bool (!conds k)) ∧ Below w1.heap.size w1 w') (hb : b < w.heap.size) :
    Calls Try.prog 54 #[.slice (some ⟨b, 0, none⟩) n n, .func (.func 55) #[] #[]] w fun e w' => e = .returned (.bool (!decide (∀ j, j < n → conds j = true))) ∧ Below w.heap.size w w' := by
  have hI := Lib.hid (indexConds_any b n hn cl conds w hc hC hb)
  clear hc hC
  go_enter Try.func54, Try.ntmps54
  go_wp2_with (go_at_call 82; refine Calls.mono hI.out ?_; rintro e w1 ⟨r, rfl, r1, r2, r3, hb1⟩)
  go_ret
  exact ⟨by first | rfl | exact ret_bool r3, hb1⟩
end Go.Proofs.Ytjnjmpakmgmdbaa

namespace Go.Proofs.Ytjnjmpakmgmdbaa
open Go.RowKit
attribute [local irreducible] wpQuiet

noncomputable def condB (m : Msn) : Nat → Bool
  | 0 => sizesB m
  | 1 => waysB m.ways
  | 2 => goValid m.home
  | 3 => rocksB m.rocks
  | 4 => inB m.start 0 100000 && inB m.speed 1 20000
  | 5 => inB m.part 0 500 && inB m.flow 0 5000
  | 6 => inB m.idle 0 1000 && inB m.drive 0 1000
  | 7 => inB m.battery 0 1000000000 && inB m.deadline 0 1000000000
  | 8 => decide (grownV m ≤ 100000)
  | _ => true
def clV (B : Nat) : Nat → Value
  | 0 => .func (.func 39) #[] #[.pointer (some ⟨B, 0, none⟩)]
  | 1 => .func (.func 40) #[] #[.pointer (some ⟨B, 0, none⟩)]
  | 2 => .func (.func 42) #[] #[.pointer (some ⟨B, 0, none⟩)]
  | 3 => .func (.func 44) #[] #[.pointer (some ⟨B, 0, none⟩)]
  | 4 => .func (.func 47) #[] #[.pointer (some ⟨B, 0, none⟩)]
  | 5 => .func (.func 49) #[] #[.pointer (some ⟨B, 0, none⟩)]
  | 6 => .func (.func 50) #[] #[.pointer (some ⟨B, 0, none⟩)]
  | 7 => .func (.func 51) #[] #[.pointer (some ⟨B, 0, none⟩)]
  | _ => .func (.func 52) #[] #[.pointer (some ⟨B, 0, none⟩)]
noncomputable def validB (m : Msn) : Bool := (List.range 9).all (condB m)
theorem validB_all (m : Msn) : validB m = true ↔ ∀ j, j < 9 → condB m j = true := by simp [validB, List.all_eq_true]

theorem sizesB_true {m : Msn} (h : sizesB m = true) : 2 ≤ m.ways.length ∧ m.ways.length ≤ 41 ∧ m.rocks.length ≤ 100 := by simpa [sizesB] using h

/-- what a valid mission has -/
structure VMsn (m : Msn) : Prop where
  n2 : 2 ≤ m.ways.length
  n41 : m.ways.length ≤ 41
  nr : m.rocks.length ≤ 100
  ways : waysB m.ways = true
  home : goValid m.home = true
  rocks : rocksB m.rocks = true
  start : 0 ≤ m.start ∧ m.start ≤ 100000
  leg : legOk m
  idle : 0 ≤ m.idle ∧ m.idle ≤ 1000
  drive : 0 ≤ m.drive ∧ m.drive ≤ 1000
  battery : 0 ≤ m.battery ∧ m.battery ≤ 1000000000
  deadline : 0 ≤ m.deadline ∧ m.deadline ≤ 1000000000
  grown : grownV m ≤ 100000
theorem validB_iff (m : Msn) : validB m = true ↔ VMsn m := by
  rw [validB_all]
  constructor
  · intro h
    have h0 := h 0 (by omega); have h1 := h 1 (by omega); have h2 := h 2 (by omega); have h3 := h 3 (by omega); have h4 := h 4 (by omega)
    have h5 := h 5 (by omega); have h6 := h 6 (by omega); have h7 := h 7 (by omega); have h8 := h 8 (by omega)
    simp only [condB, Bool.and_eq_true] at h0 h1 h2 h3 h4 h5 h6 h7 h8
    have s := sizesB_true h0
    have a := inB_true h4.1; have b := inB_true h4.2; have c := inB_true h5.1; have d := inB_true h5.2
    exact ⟨s.1, s.2.1, s.2.2, h1, h2, h3, a, ⟨b.1, b.2, c.1, c.2, d.1, d.2⟩, inB_true h6.1, inB_true h6.2, inB_true h7.1, inB_true h7.2, by simpa using h8⟩
  · intro v j hj
    obtain ⟨n2, n41, nr, ways, home, rocks, start, ⟨l1, l2, l3, l4, l5, l6⟩, idle, drive, battery, deadline, grown⟩ := v
    match j, hj with
    | 0, _ => simp [condB, sizesB]; omega
    | 1, _ => exact ways
    | 2, _ => exact home
    | 3, _ => exact rocks
    | 4, _ => simp [condB, inB]; omega
    | 5, _ => simp [condB, inB]; omega
    | 6, _ => simp [condB, inB]; omega
    | 7, _ => simp [condB, inB]; omega
    | 8, _ => simpa [condB] using grown

theorem conds_any (B : Nat) (m : Msn) (vw vh vr : Value) (w : World) (H : MsnBox w B m vw vh vr) (hm : MsnAt w.heap.size w m vw vh vr) :
    ∀ k, k < 9 → (∀ j, j < k → condB m j = true) → Calls Try.prog 55 #[clV B k] w fun e w' => e = .returned (.bool (!condB m k)) ∧ Below w.heap.size w w' := by
  obtain ⟨hw, hh, hr⟩ := hm
  intro k hk hj
  match k, hk, hj with
  | 0, _, _ => exact v10_1 _ _ w (v1_any B m vw vh vr w H hw hr)
  | 1, _, hj => exact v10_2 _ _ w (v2_any B m vw vh vr w H hw (by have := sizesB_true (hj 0 (by omega)); omega))
  | 2, _, _ => exact v10_3 _ _ w (v3_any B m vw vh vr w H hh)
  | 3, _, _ => exact v10_4 _ _ w (v4_any B m vw vh vr w H hr)
  | 4, _, _ => exact v10_5 _ _ w (v5_any B m vw vh vr w H)
  | 5, _, _ => exact v10_6 _ _ w (v6_any B m vw vh vr w H)
  | 6, _, _ => exact v10_7 _ _ w (v7_any B m vw vh vr w H)
  | 7, _, _ => exact v10_8 _ _ w (v8_any B m vw vh vr w H)
  | 8, _, hj =>
    have s := sizesB_true (hj 0 (by omega))
    have h4 := hj 4 (by omega)
    have h5 := hj 5 (by omega)
    simp only [condB, Bool.and_eq_true] at h4 h5
    have a := inB_true h4.1; have b := inB_true h4.2; have c := inB_true h5.1; have d := inB_true h5.2
    exact v10_9 _ _ w (v9_any B m vw vh vr w H ⟨b.1, b.2, c.1, c.2, d.1, d.2⟩ a hw s.1 s.2.1 (hj 1 (by omega)))

set_option maxRecDepth 4000 in
theorem valid_any (m : Msn) (vw vh vr : Value) (w : World) (hm : MsnAt w.heap.size w m vw vh vr) :
    Calls Try.prog 19 #[.agg (msnCells m vw vh vr)] w fun e w' => e = .returned (.bool (validB m)) ∧ Below w.heap.size w w' := by
  have HB : MsnBox (w.alloc (.cells (msnCells m vw vh vr) 26)) w.heap.size m vw vh vr := Has.new w _ _
  have hB1 : Below w.heap.size w (w.alloc (.cells (msnCells m vw vh vr) 26)) := (Below.refl _ _).alloc (Nat.le_refl _) _
  have HB' := Lib.hid HB
  have hB1' := Lib.hid hB1
  have hm' := Lib.hid hm
  clear HB hB1 hm
  unfold msnCells at *
  go_enter Try.func19, Try.ntmps19
  go_wp2_with fail
  refine Calls.mono (containsConds_any (w.heap.size + 1) 9 (by omega) (clV w.heap.size) (condB m) _ ?hc ?hC ?hb) ?_
  case hb => simp
  case hc =>
    intro j hj
    match j, hj with
    | 0, _ => simp [go_sem, clV]
    | 1, _ => simp [go_sem, clV]
    | 2, _ => simp [go_sem, clV]
    | 3, _ => simp [go_sem, clV]
    | 4, _ => simp [go_sem, clV]
    | 5, _ => simp [go_sem, clV]
    | 6, _ => simp [go_sem, clV]
    | 7, _ => simp [go_sem, clV]
    | 8, _ => simp [go_sem, clV]
  case hC =>
    intro k hk hj w1 hB
    have b1 := (hB1'.out.alloc (by simp) _).trans (hB.mono (by first | omega | (simp; done) | (simp; omega)))
    have h1 : MsnBox w1 w.heap.size m vw vh vr := by
      refine (Has.below HB'.out ?_ (by simp : w.heap.size < w.heap.size + 1))
      exact (((Below.refl _ _).alloc (by simp) _).trans (hB.mono (by first | omega | (simp; done) | (simp; omega))))
    exact conds_any w.heap.size m vw vh vr w1 h1 ((hm'.out.below b1).mono b1.size) k hk hj
  rintro e w1 ⟨rfl, hb1⟩
  go_wp2
  go_ret
  refine ⟨ret_bool ?_, ?_⟩
  · rw [Bool.eq_iff_iff, validB_all]; simp
  · exact (hB1'.out.alloc (by simp) _).trans (hb1.mono (by first | omega | (simp; done) | (simp; omega)))
end Go.Proofs.Ytjnjmpakmgmdbaa
