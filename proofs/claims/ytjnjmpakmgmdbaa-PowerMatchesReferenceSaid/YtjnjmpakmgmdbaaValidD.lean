/- mission.Valid: the conditions in order; mission.Valid, has. -/
import Derived.Test.YtjnjmpakmgmdbaaValidC
import Derived.Test.YtjnjmpakmgmdbaaGrown
import Derived.LoopTactic
namespace Go.Proofs.Ytjnjmpakmgmdbaa
open Go.RowKit
attribute [local irreducible] wpQuiet

theorem v9_any (B : Nat) (m : Msn) (vw vh vr : Value) (w : World) (H : MsnBox w B m vw vh vr) (hm : legOk m) (hs : 0 ≤ m.start ∧ m.start ≤ 100000) (hw : WaysAt w.heap.size w vw m.ways) (h2 : 2 ≤ m.ways.length) (h41 : m.ways.length ≤ 41) (hwb : waysB m.ways = true) :
    Calls Try.prog 52 #[.pointer (some ⟨B, 0, none⟩)] w fun e w' => e = .returned (.bool (decide (grownV m ≤ 100000))) ∧ Below w.heap.size w w' := by
  obtain ⟨c0, c1, c2, c3, c4, c5, c6, c7, c8, c9, c10⟩ := msn_cells H
  have hg := grown_any m vw vh vr w hm hs hw h2 h41 hwb
  have hg' := Lib.hid hg
  clear hg hm hs hw h2 h41 hwb
  unfold msnCells at hg'
  go_enter Try.func52, Try.ntmps52
  go_wp2_with (go_at_call 53; refine (hg'.out).mono ?_; rintro e w1 ⟨rfl, hb1⟩; have hz1 := hb1.size; try simp at hz1)
  go_ret
  exact ⟨rfl, by repeat (first | exact Below.refl _ _ | assumption | apply Below.drew | refine Below.setCell ?_ (by first | omega | (simp; done) | (simp; omega)) _ | refine Below.alloc ?_ (by first | omega | (simp; done) | (simp; omega)) _ | refine Below.call (by assumption) ?_ (by first | omega | (simp; done) | (simp; omega)))⟩

theorem v10_1 (B : Addr) (c : Bool) (w : World) (h : Calls Try.prog 39 #[.pointer (some B)] w fun e w' => e = .returned (.bool c) ∧ Below w.heap.size w w') :
    Calls Try.prog 55 #[.func (.func 39) #[] #[.pointer (some B)]] w fun e w' => e = .returned (.bool (!c)) ∧ Below w.heap.size w w' := by
  have h' := Lib.hid h
  clear h
  go_enter Try.func55, Try.ntmps55
  go_wp2_with (go_at_call 39; refine (h'.out).mono ?_; rintro e w1 ⟨rfl, hb1⟩; have hz1 := hb1.size; try simp at hz1)
  go_ret
  exact ⟨rfl, hb1⟩
theorem v10_2 (B : Addr) (c : Bool) (w : World) (h : Calls Try.prog 40 #[.pointer (some B)] w fun e w' => e = .returned (.bool c) ∧ Below w.heap.size w w') :
    Calls Try.prog 55 #[.func (.func 40) #[] #[.pointer (some B)]] w fun e w' => e = .returned (.bool (!c)) ∧ Below w.heap.size w w' := by
  have h' := Lib.hid h
  clear h
  go_enter Try.func55, Try.ntmps55
  go_wp2_with (go_at_call 40; refine (h'.out).mono ?_; rintro e w1 ⟨rfl, hb1⟩; have hz1 := hb1.size; try simp at hz1)
  go_ret
  exact ⟨rfl, hb1⟩
theorem v10_3 (B : Addr) (c : Bool) (w : World) (h : Calls Try.prog 42 #[.pointer (some B)] w fun e w' => e = .returned (.bool c) ∧ Below w.heap.size w w') :
    Calls Try.prog 55 #[.func (.func 42) #[] #[.pointer (some B)]] w fun e w' => e = .returned (.bool (!c)) ∧ Below w.heap.size w w' := by
  have h' := Lib.hid h
  clear h
  go_enter Try.func55, Try.ntmps55
  go_wp2_with (go_at_call 42; refine (h'.out).mono ?_; rintro e w1 ⟨rfl, hb1⟩; have hz1 := hb1.size; try simp at hz1)
  go_ret
  exact ⟨rfl, hb1⟩
theorem v10_4 (B : Addr) (c : Bool) (w : World) (h : Calls Try.prog 44 #[.pointer (some B)] w fun e w' => e = .returned (.bool c) ∧ Below w.heap.size w w') :
    Calls Try.prog 55 #[.func (.func 44) #[] #[.pointer (some B)]] w fun e w' => e = .returned (.bool (!c)) ∧ Below w.heap.size w w' := by
  have h' := Lib.hid h
  clear h
  go_enter Try.func55, Try.ntmps55
  go_wp2_with (go_at_call 44; refine (h'.out).mono ?_; rintro e w1 ⟨rfl, hb1⟩; have hz1 := hb1.size; try simp at hz1)
  go_ret
  exact ⟨rfl, hb1⟩
theorem v10_5 (B : Addr) (c : Bool) (w : World) (h : Calls Try.prog 47 #[.pointer (some B)] w fun e w' => e = .returned (.bool c) ∧ Below w.heap.size w w') :
    Calls Try.prog 55 #[.func (.func 47) #[] #[.pointer (some B)]] w fun e w' => e = .returned (.bool (!c)) ∧ Below w.heap.size w w' := by
  have h' := Lib.hid h
  clear h
  go_enter Try.func55, Try.ntmps55
  go_wp2_with (go_at_call 47; refine (h'.out).mono ?_; rintro e w1 ⟨rfl, hb1⟩; have hz1 := hb1.size; try simp at hz1)
  go_ret
  exact ⟨rfl, hb1⟩
theorem v10_6 (B : Addr) (c : Bool) (w : World) (h : Calls Try.prog 49 #[.pointer (some B)] w fun e w' => e = .returned (.bool c) ∧ Below w.heap.size w w') :
    Calls Try.prog 55 #[.func (.func 49) #[] #[.pointer (some B)]] w fun e w' => e = .returned (.bool (!c)) ∧ Below w.heap.size w w' := by
  have h' := Lib.hid h
  clear h
  go_enter Try.func55, Try.ntmps55
  go_wp2_with (go_at_call 49; refine (h'.out).mono ?_; rintro e w1 ⟨rfl, hb1⟩; have hz1 := hb1.size; try simp at hz1)
  go_ret
  exact ⟨rfl, hb1⟩
theorem v10_7 (B : Addr) (c : Bool) (w : World) (h : Calls Try.prog 50 #[.pointer (some B)] w fun e w' => e = .returned (.bool c) ∧ Below w.heap.size w w') :
    Calls Try.prog 55 #[.func (.func 50) #[] #[.pointer (some B)]] w fun e w' => e = .returned (.bool (!c)) ∧ Below w.heap.size w w' := by
  have h' := Lib.hid h
  clear h
  go_enter Try.func55, Try.ntmps55
  go_wp2_with (go_at_call 50; refine (h'.out).mono ?_; rintro e w1 ⟨rfl, hb1⟩; have hz1 := hb1.size; try simp at hz1)
  go_ret
  exact ⟨rfl, hb1⟩
theorem v10_8 (B : Addr) (c : Bool) (w : World) (h : Calls Try.prog 51 #[.pointer (some B)] w fun e w' => e = .returned (.bool c) ∧ Below w.heap.size w w') :
    Calls Try.prog 55 #[.func (.func 51) #[] #[.pointer (some B)]] w fun e w' => e = .returned (.bool (!c)) ∧ Below w.heap.size w w' := by
  have h' := Lib.hid h
  clear h
  go_enter Try.func55, Try.ntmps55
  go_wp2_with (go_at_call 51; refine (h'.out).mono ?_; rintro e w1 ⟨rfl, hb1⟩; have hz1 := hb1.size; try simp at hz1)
  go_ret
  exact ⟨rfl, hb1⟩
theorem v10_9 (B : Addr) (c : Bool) (w : World) (h : Calls Try.prog 52 #[.pointer (some B)] w fun e w' => e = .returned (.bool c) ∧ Below w.heap.size w w') :
    Calls Try.prog 55 #[.func (.func 52) #[] #[.pointer (some B)]] w fun e w' => e = .returned (.bool (!c)) ∧ Below w.heap.size w w' := by
  have h' := Lib.hid h
  clear h
  go_enter Try.func55, Try.ntmps55
  go_wp2_with (go_at_call 52; refine (h'.out).mono ?_; rintro e w1 ⟨rfl, hb1⟩; have hz1 := hb1.size; try simp at hz1)
  go_ret
  exact ⟨rfl, hb1⟩

theorem indexConds_any (b n : Nat) (hn : n ≤ 1000) (cl : Nat → Value) (conds : Nat → Bool) (w : World) (hc : ∀ j, j < n → w.cell? ⟨b, j, none⟩ = some (cl j))
    (hC : ∀ k, k < n → (∀ j, j < k → conds j = true) → ∀ w1, Below w.heap.size w w1 → Calls Try.prog 55 #[cl k] w1 fun e w' => e = .returned (.bool (!conds k)) ∧ Below w1.heap.size w1 w') (hb : b < w.heap.size) :
    Calls Try.prog 82 #[.slice (some ⟨b, 0, none⟩) n n, .func (.func 55) #[] #[]] w (FoundQ (!decide (∀ j, j < n → conds j = true)) w) := by
  have hcH := Lib.hid hc
  have hCH := Lib.hid hC
  clear hc hC
  go_enter Try.func82, Try.ntmps82
  go_wp2
  go_loopw [8] (fun i wr => ∃ k : Nat, k ≤ n ∧ i = .int .i64 k ∧ (∀ j, j < k → conds j = true) ∧ Below w.heap.size w wr) (fun i _ => n - (intOf i).toNat)
  case atStart => exact ⟨0, Nat.zero_le _, rfl, fun j h => by omega, Below.refl _ _⟩
  case round =>
    obtain ⟨k, hk, rfl, hall, hB⟩ := hrel
    by_cases hlt : k < n
    · have c1 := (hB.cell (p := ⟨b, k, none⟩) hb).trans (hcH.out k hlt)
      have hv := hCH.out k hlt hall wr hB
      have hall' := Lib.hid hall
      have hv' := Lib.hid hv
      clear hall hv
      have hz := hB.size
      cases hpl : conds k
      · have hr : Hid (decide (∀ j, j < n → conds j = true) = false) := by
          show decide (∀ j, j < n → conds j = true) = false
          simp only [decide_eq_false_iff_not]
          intro h
          have := h k hlt
          rw [hpl] at this
          cases this
        rw [hpl] at hv'
        have hpl' := Lib.hid hpl
        clear hpl
        go_wp2_with (go_at_call 55; refine (hv'.out).mono ?_; rintro e w1 ⟨rfl, hb1⟩; have hz1 := hb1.size; try simp at hz1)
        go_ret
        exact ⟨k, rfl, by omega, by omega, by rw [hr.out]; simp, by repeat (first | exact Below.refl _ _ | assumption | apply Below.drew | refine Below.setCell ?_ (by first | omega | (simp; done) | (simp; omega)) _ | refine Below.alloc ?_ (by first | omega | (simp; done) | (simp; omega)) _ | refine Below.call (by assumption) ?_ (by first | omega | (simp; done) | (simp; omega)))⟩
      · rw [hpl] at hv'
        have hpl' := Lib.hid hpl
        clear hpl
        go_wp2_with (go_at_call 55; refine (hv'.out).mono ?_; rintro e w1 ⟨rfl, hb1⟩; have hz1 := hb1.size; try simp at hz1)
        go_roundw
        case rel =>
          refine ⟨k + 1, by omega, by go_num, fun j hj => ?_, by repeat (first | exact Below.refl _ _ | assumption | apply Below.drew | refine Below.setCell ?_ (by first | omega | (simp; done) | (simp; omega)) _ | refine Below.alloc ?_ (by first | omega | (simp; done) | (simp; omega)) _ | refine Below.call (by assumption) ?_ (by first | omega | (simp; done) | (simp; omega)))⟩
          by_cases e : j = k
          · rw [e]; exact hpl'.out
          · exact hall'.out j (by omega)
        case measure => simp [intOf]; omega
    · have hr : Hid (decide (∀ j, j < n → conds j = true) = true) := by
        show decide (∀ j, j < n → conds j = true) = true
        simp only [decide_eq_true_eq]
        intro j hj
        exact hall j (by omega)
      clear hall
      go_wp2
      go_ret
      exact ⟨-1, rfl, by omega, by omega, by rw [hr.out]; simp, hB⟩

theorem containsConds_any (b n : Nat) (hn : n ≤ 1000) (cl : Nat → Value) (conds : Nat → Bool) (w : World) (hc : ∀ j, j < n → w.cell? ⟨b, j, none⟩ = some (cl j))
    (hC : ∀ k, k < n → (∀ j, j < k → conds j = true) → ∀ w1, Below w.heap.size w w1 → Calls Try.prog 55 #[cl k] w1 fun e w' => e = .returned (.bool (!conds k)) ∧ Below w1.heap.size w1 w') (hb : b < w.heap.size) :
    Calls Try.prog 54 #[.slice (some ⟨b, 0, none⟩) n n, .func (.func 55) #[] #[]] w fun e w' => e = .returned (.bool (!decide (∀ j, j < n → conds j = true))) ∧ Below w.heap.size w w' := by
  have hI := Lib.hid (indexConds_any b n hn cl conds w hc hC hb)
  clear hc hC
  go_enter Try.func54, Try.ntmps54
  go_wp2_with (go_at_call 82; refine Calls.mono hI.out ?_; rintro e w1 ⟨r, rfl, r1, r2, r3, hb1⟩)
  go_ret
  exact ⟨by first | rfl | exact ret_bool r3, hb1⟩
end Go.Proofs.Ytjnjmpakmgmdbaa
