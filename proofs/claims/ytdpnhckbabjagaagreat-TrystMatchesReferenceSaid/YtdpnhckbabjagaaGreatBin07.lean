/- The reference of layer 3: Less, Cross, Valid. | The reference's Valid of layer 3. | Both functions Valid of layer 3 say the same. | landfallref38: Square, Reach, Range. | package hull: ends, Box. | package cut: turn, crosses, floor; the reference's Down, Up in a wider range, differ. | A range over a function whose loop's variables are laid in a block each round: the law with the loop's slots left open. -/
import Derived.Test.YtdpnhckbabjagaaGreatBin03
import Derived.Test.YtdpnhckbabjagaaGreatBin01
import Derived.Test.YtdpnhckbabjagaaGreatBin06
namespace Go.Proofs.YtdpnhckbabjagaaGreat
open Go.RowKit Go.Shelf
attribute [local irreducible] wpQuiet

theorem cmpV_lt_iff (ax ay bx by' : Int) : cmpV ax ay bx by' < 0 ↔ ax < bx ∨ ax = bx ∧ ay < by' := by
  unfold cmpV orI cmpI
  repeat' split
  all_goals omega
def lessB (ax ay bx by' : Int) : Bool := decide (cmpV ax ay bx by' < 0)

theorem rless_any (ax ay bx by' : Int) (w : World) :
    Calls Tryz.prog 62 #[.agg #[.int .i64 ax, .int .i64 ay], .agg #[.int .i64 bx, .int .i64 by']] w fun e w' => e = .returned (.bool (lessB ax ay bx by')) ∧ Below w.heap.size w w' := by
  rcases Int.lt_trichotomy ax bx with h | rfl | h
  · have e : lessB ax ay bx by' = true := by simp only [lessB, decide_eq_true_eq, cmpV_lt_iff]; omega
    rw [e]; clear e
    go_enter Tryz.func62, Tryz.ntmps62
    go_wp2
    go_ret
    exact ⟨rfl, by repeat (first | exact Below.refl _ _ | assumption | apply Below.drew | refine Below.setCell ?_ (by first | omega | (simp; done) | (simp; omega)) _ | refine Below.alloc ?_ (by first | omega | (simp; done) | (simp; omega)) _ | refine Below.call (by assumption) ?_ (by first | omega | (simp; done) | (simp; omega)))⟩
  · by_cases h2 : ay < by'
    · have e : lessB ax ay ax by' = true := by simp only [lessB, decide_eq_true_eq, cmpV_lt_iff]; exact Or.inr ⟨trivial, h2⟩
      rw [e]; clear e
      go_enter Tryz.func62, Tryz.ntmps62
      go_wp2
      go_ret
      exact ⟨rfl, by repeat (first | exact Below.refl _ _ | assumption | apply Below.drew | refine Below.setCell ?_ (by first | omega | (simp; done) | (simp; omega)) _ | refine Below.alloc ?_ (by first | omega | (simp; done) | (simp; omega)) _ | refine Below.call (by assumption) ?_ (by first | omega | (simp; done) | (simp; omega)))⟩
    · have e : lessB ax ay ax by' = false := by simp only [lessB, decide_eq_false_iff_not, cmpV_lt_iff]; rintro (h | ⟨_, h⟩) <;> omega
      have d : decide (ay < by') = false := by simpa using h2
      rw [e]; clear e
      go_enter Tryz.func62, Tryz.ntmps62
      go_wp2
      go_ret
      exact ⟨rfl, by repeat (first | exact Below.refl _ _ | assumption | apply Below.drew | refine Below.setCell ?_ (by first | omega | (simp; done) | (simp; omega)) _ | refine Below.alloc ?_ (by first | omega | (simp; done) | (simp; omega)) _ | refine Below.call (by assumption) ?_ (by first | omega | (simp; done) | (simp; omega)))⟩
  · have e : lessB ax ay bx by' = false := by simp only [lessB, decide_eq_false_iff_not, cmpV_lt_iff]; omega
    have d : decide (ax < bx) = false := by simp; omega
    have d2 : (ax == bx) = false := by simp; omega
    rw [e]; clear e
    go_enter Tryz.func62, Tryz.ntmps62
    go_wp2
    go_ret
    exact ⟨rfl, by repeat (first | exact Below.refl _ _ | assumption | apply Below.drew | refine Below.setCell ?_ (by first | omega | (simp; done) | (simp; omega)) _ | refine Below.alloc ?_ (by first | omega | (simp; done) | (simp; omega)) _ | refine Below.call (by assumption) ?_ (by first | omega | (simp; done) | (simp; omega)))⟩

theorem cross_any (ax ay bx by' cx cy : Int) (w : World) (a1 : -1000000 ≤ ax) (a2 : ax ≤ 1000000) (a3 : -1000000 ≤ ay) (a4 : ay ≤ 1000000)
    (b1 : -1000000 ≤ bx) (b2 : bx ≤ 1000000) (b3 : -1000000 ≤ by') (b4 : by' ≤ 1000000) (c1 : -1000000 ≤ cx) (c2 : cx ≤ 1000000) (c3 : -1000000 ≤ cy) (c4 : cy ≤ 1000000) :
    Calls Tryz.prog 63 #[.agg #[.int .i64 ax, .int .i64 ay], .agg #[.int .i64 bx, .int .i64 by'], .agg #[.int .i64 cx, .int .i64 cy]] w fun e w' => e = .returned (.int .i64 (turnV ax ay bx by' cx cy)) ∧ Below w.heap.size w w' := by
  have p := prod_bd (a := bx - ax) (b := cy - ay) (m := 2000000) (n := 2000000) (by omega) (by omega) (by omega) (by omega)
  have q := prod_bd (a := by' - ay) (b := cx - ax) (m := 2000000) (n := 2000000) (by omega) (by omega) (by omega) (by omega)
  have p' : IntKind.i64.wrap ((bx - ax) * (cy - ay)) = (bx - ax) * (cy - ay) := IntWalk.i64_in _ (by omega)
  have q' : IntKind.i64.wrap ((by' - ay) * (cx - ax)) = (by' - ay) * (cx - ax) := IntWalk.i64_in _ (by omega)
  have r' : IntKind.i64.wrap ((bx - ax) * (cy - ay) - (by' - ay) * (cx - ax)) = (bx - ax) * (cy - ay) - (by' - ay) * (cx - ax) := IntWalk.i64_in _ (by omega)
  clear p q
  unfold turnV
  go_enter Tryz.func63, Tryz.ntmps63
  go_wp2
  go_ret
  exact ⟨rfl, by repeat (first | exact Below.refl _ _ | assumption | apply Below.drew | refine Below.setCell ?_ (by first | omega | (simp; done) | (simp; omega)) _ | refine Below.alloc ?_ (by first | omega | (simp; done) | (simp; omega)) _ | refine Below.call (by assumption) ?_ (by first | omega | (simp; done) | (simp; omega)))⟩

def RefValid (l : List Pt) : Prop := 1 ≤ l.length ∧ l.length ≤ 64 ∧ (∀ k, k < l.length → placeP (nth l k) = true) ∧ (∀ k, 1 ≤ k → k < l.length → cmpP (nth l 0) (nth l k) < 0) ∧
  (2 < l.length → ∀ i, i < l.length → ∀ k, k < l.length → k ≠ i → k ≠ (i + 1) % l.length → 0 < turnP (nth l i) (nth l ((i + 1) % l.length)) (nth l k))
open Classical in
noncomputable def refValid (l : List Pt) : Bool := decide (RefValid l)

/-- the corners from 1 to k - 1 are greater than the first one -/
def lessTo (l : List Pt) (k : Nat) : Prop := ∀ j, 1 ≤ j → j < k → cmpP (nth l 0) (nth l j) < 0
/-- side i has all corners before k on its left -/
def leftTo (l : List Pt) (i k : Nat) : Prop := ∀ j, j < k → j ≠ i → j ≠ (i + 1) % l.length → 0 < turnP (nth l i) (nth l ((i + 1) % l.length)) (nth l j)

theorem rvalid_size (v : Value) (l : List Pt) (w : World) (hp : PtsAt w.heap.size w v l) (hs : l.length < 1 ∨ 64 < l.length) :
    Calls Tryz.prog 33 #[v] w fun e w' => e = .returned (.bool (refValid l)) ∧ Below w.heap.size w w' := by
  have hr : refValid l = false := by simp only [refValid, decide_eq_false_iff_not]; rintro ⟨h1, h2, _⟩; omega
  rw [hr]; clear hr
  obtain ⟨hl, a, cap, rfl, hc⟩ := hp
  clear hc
  rcases hs with hs | hs
  · have d : decide ((l.length : Int) < 1) = true := by simp; omega
    have hs' := Lib.hid hs
    clear hs
    go_enter Tryz.func33, Tryz.ntmps33
    go_wp2
    go_ret
    exact ⟨rfl, by repeat (first | exact Below.refl _ _ | assumption | apply Below.drew | refine Below.setCell ?_ (by first | omega | (simp; done) | (simp; omega)) _ | refine Below.alloc ?_ (by first | omega | (simp; done) | (simp; omega)) _ | refine Below.call (by assumption) ?_ (by first | omega | (simp; done) | (simp; omega)))⟩
  · have d : decide ((l.length : Int) < 1) = false := by simp; omega
    have d : decide (64 < (l.length : Int)) = true := by simp; omega
    have hs' := Lib.hid hs
    clear hs
    go_enter Tryz.func33, Tryz.ntmps33
    go_wp2
    go_ret
    exact ⟨rfl, by repeat (first | exact Below.refl _ _ | assumption | apply Below.drew | refine Below.setCell ?_ (by first | omega | (simp; done) | (simp; omega)) _ | refine Below.alloc ?_ (by first | omega | (simp; done) | (simp; omega)) _ | refine Below.call (by assumption) ?_ (by first | omega | (simp; done) | (simp; omega)))⟩
end Go.Proofs.YtdpnhckbabjagaaGreat

namespace Go.Proofs.YtdpnhckbabjagaaGreat
open Go.RowKit Go.Shelf
attribute [local irreducible] wpQuiet

set_option maxRecDepth 100000 in
set_option maxHeartbeats 4000000 in
theorem rvalid_two (v : Value) (l : List Pt) (w : World) (hp : PtsAt w.heap.size w v l) (h1 : 1 ≤ l.length) (h2 : l.length ≤ 64) :
    Calls Tryz.prog 33 #[v] w fun e w' => e = .returned (.bool (refValid l)) ∧ Below w.heap.size w w' := by
  have HP := Lib.hid (fun w1 hlow => places_any v l w1 ((hp.below hlow).mono hlow.size) : ∀ w1, Below w.heap.size w w1 → _)
  obtain ⟨hl, a, cap, rfl, hc⟩ := hp
  obtain ⟨b, o, rfl, hb, hc⟩ : ∃ b o, a = some ⟨b, o, none⟩ ∧ b < w.heap.size ∧ ∀ j, j < l.length → w.cell? ⟨b, o + j * 2, none⟩ = some (.int .i64 (nth l j).x) ∧ w.cell? ⟨b, o + j * 2 + 1, none⟩ = some (.int .i64 (nth l j).y) := by
    rcases hc with rfl | h
    · simp at h1
    · exact h
  have d1 : decide ((l.length : Int) < 1) = false := by simp; omega
  have d2 : decide (64 < (l.length : Int)) = false := by simp; omega
  have hc' := Lib.hid hc
  have hn0 : 0 < l.length := by omega
  have hne : ¬ l = [] := by intro h; rw [h] at hn0; simp at hn0
  clear hc
  cases hap : allPl l
  · have hr : refValid l = false := by
      simp only [refValid, decide_eq_false_iff_not]
      rintro ⟨_, _, h3, _⟩
      simp only [allPl, decide_eq_false_iff_not] at hap
      exact hap h3
    have HR := Lib.hid hr
    clear hr
    go_enter Tryz.func33, Tryz.ntmps33
    go_wp2_with (go_at_call 61; refine (HP.out _ (Below.refl _ _)).mono ?_; rintro e w1 ⟨rfl, hb1⟩; have hz1 := hb1.size; try simp at hz1)
    go_ret
    exact ⟨ret_bool HR.out.symm, by repeat (first | exact Below.refl _ _ | assumption | apply Below.drew | refine Below.setCell ?_ (by first | omega | (simp; done) | (simp; omega)) _ | refine Below.alloc ?_ (by first | omega | (simp; done) | (simp; omega)) _ | refine Below.call (by assumption) ?_ (by first | omega | (simp; done) | (simp; omega)))⟩
  · have hpl : ∀ k, k < l.length → placeP (nth l k) = true := by simpa only [allPl, decide_eq_true_eq] using hap
    have HPL := Lib.hid hpl
    clear hpl
    go_enter Tryz.func33, Tryz.ntmps33
    go_wp2_with (go_at_call 61; refine (HP.out _ (Below.refl _ _)).mono ?_; rintro e w1 ⟨rfl, hb1⟩; have hz1 := hb1.size; try simp at hz1)
    go_loopw [4] (fun i wr => ∃ k : Nat, 1 ≤ k ∧ k ≤ l.length ∧ i = .int .i64 k ∧ lessTo l k ∧ Below w.heap.size w wr) (fun i _ => l.length - (intOf i).toNat)
    case atStart => exact ⟨1, by omega, by omega, rfl, fun j h h' => by omega, hb1⟩
    case round =>
      obtain ⟨k, hk1, hk, rfl, hls, hB⟩ := hrel
      have hz := hB.size
      by_cases hlt : k < l.length
      · have c1 := Low.fact ((hB.cell (p := ⟨b, o + k * 2, none⟩) hb).trans (hc'.out k hlt).1)
        have c2 := Low.fact ((hB.cell (p := ⟨b, o + k * 2 + 1, none⟩) hb).trans (hc'.out k hlt).2)
        have c3 := Low.fact ((hB.cell (p := ⟨b, o + 0 * 2, none⟩) hb).trans (hc'.out 0 (by omega)).1)
        have c4 := Low.fact ((hB.cell (p := ⟨b, o + 0 * 2 + 1, none⟩) hb).trans (hc'.out 0 (by omega)).2)
        simp only [Nat.zero_mul, Nat.add_zero] at c3 c4
        have hls' := Lib.hid hls
        clear hls
        cases hls2 : lessB (nth l 0).x (nth l 0).y (nth l k).x (nth l k).y
        · have hr : refValid l = false := by
            simp only [refValid, decide_eq_false_iff_not]
            rintro ⟨_, _, _, h4, _⟩
            have := h4 k hk1 hlt
            simp only [lessB, decide_eq_false_iff_not] at hls2
            exact hls2 this
          have HR := Lib.hid hr
          clear hr
          go_wp2
          (refine wp_region_low (by kernel_rfl) (by kernel_rfl) ?_; (iterate 9 (apply quiet_want; (case hw => rfl); (case hval => (intro w1 hw1; have hcx := Low.cells hw1; simp only [Oper.quietAt]; go_simp; first | done | (first | (go_at_call 62; exact Low.calls hw1 (rless_any _ _ _ _ _))) | rfl | exact ⟨rfl, rfl⟩)); simp only [Act.put, List.setIfInBounds_toArray, List.set_cons_zero, List.set_cons_succ])); refine wpQuiet_nil ?_; intro w2 hw2)
          go_wp2
          go_ret
          exact ⟨ret_bool HR.out.symm, hB.trans (hw2.out.mono (by omega))⟩
        · have hls3 : Hid (cmpP (nth l 0) (nth l k) < 0) := by simp only [lessB, decide_eq_true_eq] at hls2; exact hls2
          go_wp2
          (refine wp_region_low (by kernel_rfl) (by kernel_rfl) ?_; (iterate 9 (apply quiet_want; (case hw => rfl); (case hval => (intro w1 hw1; have hcx := Low.cells hw1; simp only [Oper.quietAt]; go_simp; first | done | (first | (go_at_call 62; exact Low.calls hw1 (rless_any _ _ _ _ _))) | rfl | exact ⟨rfl, rfl⟩)); simp only [Act.put, List.setIfInBounds_toArray, List.set_cons_zero, List.set_cons_succ])); refine wpQuiet_nil ?_; intro w2 hw2)
          go_wp2
          go_roundw
          case rel =>
            refine ⟨k + 1, by omega, by omega, by simp, fun j hj1 hj => ?_, hB.trans (hw2.out.mono (by omega))⟩
            by_cases e : j = k
            · subst e; exact hls3.out
            · exact hls'.out j hj1 (by omega)
          case measure => simp [intOf]; omega
      · obtain rfl : k = l.length := by omega
        have hls' := Lib.hid hls
        clear hls
        go_wp2
        go_loopw [5] (fun i wq => ∃ i0 : Nat, i0 ≤ l.length ∧ i = .int .i64 i0 ∧ (2 < l.length → ∀ j, j < i0 → leftTo l j l.length) ∧ Below w.heap.size w wq) (fun i _ => l.length - (intOf i).toNat)
        case atStart => exact ⟨0, Nat.zero_le _, rfl, fun _ j h => by omega, hB⟩
        case round =>
          obtain ⟨i, hi, rfl, hlf, hBq⟩ := hrel
          have hlf' := Lib.hid hlf
          clear hlf
          by_cases hend : i = l.length ∨ l.length ≤ 2
          · have hr : refValid l = true := by
              simp only [refValid, decide_eq_true_eq]
              exact ⟨h1, h2, HPL.out, fun k a b => hls'.out k a b, fun h3 i' hi' k hk => hlf'.out h3 i' (by omega) k hk⟩
            have HR := Lib.hid hr
            clear hr
            rcases hend with rfl | h3
            · go_wp2
              go_ret
              exact ⟨ret_bool HR.out.symm, hBq⟩
            · by_cases hin : i < l.length
              · have d3 : decide (2 < (l.length : Int)) = false := by simp; omega
                have d4 : decide (2 < l.length) = false := by simp; omega
                go_wp2
                go_ret
                exact ⟨ret_bool HR.out.symm, hBq⟩
              · go_wp2
                go_ret
                exact ⟨ret_bool HR.out.symm, hBq⟩
          · have hin : i < l.length := by omega
            have h3 : 2 < l.length := by omega
            have d3 : decide (2 < (l.length : Int)) = true := by simp; omega
            obtain ⟨m, hm⟩ : ∃ m, (i + 1) % l.length = m := ⟨_, rfl⟩
            have hmlt : m < l.length := by rw [← hm]; exact Nat.mod_lt _ hn0
            have hw1 : IntKind.i64.wrap ((i : Int) + 1) = (i : Int) + 1 := IntWalk.i64_in _ (by omega)
            have hw2 : ((i : Int) + 1).tmod (l.length : Int) = (m : Int) := by
              have : ((i : Int) + 1).tmod (l.length : Int) = (((i + 1) % l.length : Nat) : Int) := by
                rw [Int.tmod_eq_emod_of_nonneg (by omega)]; rfl
              rw [this, hm]
            have HM := Lib.hid hm
            have pi := placeB_true (HPL.out i hin)
            have pm := placeB_true (HPL.out m hmlt)
            clear hm hend
            obtain ⟨wo, rfl⟩ : ∃ wo : World, wo = wr := ⟨_, rfl⟩
            go_wp2
            go_loopw [6] (fun kk wv => ∃ k : Nat, k ≤ l.length ∧ kk = .int .i64 k ∧ leftTo l i k ∧ Below w.heap.size w wv) (fun kk _ => l.length - (intOf kk).toNat)
            case atStart => exact ⟨0, Nat.zero_le _, rfl, fun j h => by omega, hBq⟩
            case round =>
              obtain ⟨k, hk, rfl, hlt0, hBv⟩ := hrel
              have hlt' := Lib.hid hlt0
              have hzv := hBv.size
              clear hlt0
              by_cases hkn : k < l.length
              · have c1 := Low.fact ((hBv.cell (p := ⟨b, o + k * 2, none⟩) hb).trans (hc'.out k hkn).1)
                have c2 := Low.fact ((hBv.cell (p := ⟨b, o + k * 2 + 1, none⟩) hb).trans (hc'.out k hkn).2)
                have c3 := Low.fact ((hBv.cell (p := ⟨b, o + i * 2, none⟩) hb).trans (hc'.out i hin).1)
                have c4 := Low.fact ((hBv.cell (p := ⟨b, o + i * 2 + 1, none⟩) hb).trans (hc'.out i hin).2)
                have c5 := Low.fact ((hBv.cell (p := ⟨b, o + m * 2, none⟩) hb).trans (hc'.out m hmlt).1)
                have c6 := Low.fact ((hBv.cell (p := ⟨b, o + m * 2 + 1, none⟩) hb).trans (hc'.out m hmlt).2)
                have pk := placeB_true (HPL.out k hkn)
                by_cases e1 : k = i
                · subst e1
                  go_wp2
                  (refine wp_region_low (by kernel_rfl) (by kernel_rfl) ?_; (iterate 4 (apply quiet_want; (case hw => rfl); (case hval => (intro w1 hw1; have hcx := Low.cells hw1; simp only [Oper.quietAt]; go_simp; first | done | (first | fail) | rfl | exact ⟨rfl, rfl⟩)); simp only [Act.put, List.setIfInBounds_toArray, List.set_cons_zero, List.set_cons_succ])); (iterate 6 (apply quiet_skip; (case hw => rfl); simp only [Act.put, List.setIfInBounds_toArray, List.set_cons_zero, List.set_cons_succ])); (iterate 2 (apply quiet_want; (case hw => rfl); (case hval => (intro w1 hw1; have hcx := Low.cells hw1; simp only [Oper.quietAt]; go_simp; first | done | (first | fail) | rfl | exact ⟨rfl, rfl⟩)); simp only [Act.put, List.setIfInBounds_toArray, List.set_cons_zero, List.set_cons_succ])); (iterate 17 (apply quiet_skip; (case hw => rfl); simp only [Act.put, List.setIfInBounds_toArray, List.set_cons_zero, List.set_cons_succ])); (iterate 1 (apply quiet_want; (case hw => rfl); (case hval => (intro w1 hw1; have hcx := Low.cells hw1; simp only [Oper.quietAt]; go_simp; first | done | (first | fail) | rfl | exact ⟨rfl, rfl⟩)); simp only [Act.put, List.setIfInBounds_toArray, List.set_cons_zero, List.set_cons_succ])); refine wpQuiet_nil ?_; intro w2 hw2)
                  go_wp2
                  go_roundw
                  case rel =>
                    refine ⟨k + 1, by omega, by simp, fun j hj => ?_, hBv.trans (hw2.out.mono (by omega))⟩
                    by_cases e : j = k
                    · subst e; intro h; exact absurd rfl h
                    · exact hlt'.out j (by omega)
                  case measure => simp [intOf]; omega
                · have q1 : ((k : Int) != (i : Int)) = true := by rw [bne_iff_ne]; omega
                  have q2 : (k != i) = true := by rw [bne_iff_ne]; omega
                  by_cases e2 : k = m
                  · subst e2
                    go_wp2
                    (refine wp_region_low (by kernel_rfl) (by kernel_rfl) ?_; (iterate 12 (apply quiet_want; (case hw => rfl); (case hval => (intro w1 hw1; have hcx := Low.cells hw1; simp only [Oper.quietAt]; go_simp; first | done | (first | fail) | rfl | exact ⟨rfl, rfl⟩)); simp only [Act.put, List.setIfInBounds_toArray, List.set_cons_zero, List.set_cons_succ])); (iterate 17 (apply quiet_skip; (case hw => rfl); simp only [Act.put, List.setIfInBounds_toArray, List.set_cons_zero, List.set_cons_succ])); (iterate 1 (apply quiet_want; (case hw => rfl); (case hval => (intro w1 hw1; have hcx := Low.cells hw1; simp only [Oper.quietAt]; go_simp; first | done | (first | fail) | rfl | exact ⟨rfl, rfl⟩)); simp only [Act.put, List.setIfInBounds_toArray, List.set_cons_zero, List.set_cons_succ])); refine wpQuiet_nil ?_; intro w2 hw2)
                    go_wp2
                    go_roundw
                    case rel =>
                      refine ⟨k + 1, by omega, by simp, fun j hj => ?_, hBv.trans (hw2.out.mono (by omega))⟩
                      by_cases e : j = k
                      · subst e; intro _ h; exact absurd HM.out.symm h
                      · exact hlt'.out j (by omega)
                    case measure => simp [intOf]; omega
                  · have q3 : ((k : Int) != (m : Int)) = true := by rw [bne_iff_ne]; omega
                    have q4 : (k != m) = true := by rw [bne_iff_ne]; omega
                    by_cases ht : turnV (nth l i).x (nth l i).y (nth l m).x (nth l m).y (nth l k).x (nth l k).y ≤ 0
                    · have dt : decide (turnV (nth l i).x (nth l i).y (nth l m).x (nth l m).y (nth l k).x (nth l k).y ≤ 0) = true := by simpa using ht
                      have hr : refValid l = false := by
                        simp only [refValid, decide_eq_false_iff_not]
                        rintro ⟨_, _, _, _, h5⟩
                        have := h5 h3 i hin k hkn e1 (by rw [HM.out]; exact e2)
                        rw [HM.out] at this
                        simp only [turnP] at this
                        omega
                      have HR := Lib.hid hr
                      clear hr ht
                      go_wp2
                      (refine wp_region_low (by kernel_rfl) (by kernel_rfl) ?_; (iterate 30 (apply quiet_want; (case hw => rfl); (case hval => (intro w1 hw1; have hcx := Low.cells hw1; simp only [Oper.quietAt]; go_simp; first | done | (first | (go_at_call 63; exact Low.calls hw1 (cross_any _ _ _ _ _ _ _ (by omega) (by omega) (by omega) (by omega) (by omega) (by omega) (by omega) (by omega) (by omega) (by omega) (by omega) (by omega)))) | rfl | exact ⟨rfl, rfl⟩)); simp only [Act.put, List.setIfInBounds_toArray, List.set_cons_zero, List.set_cons_succ])); refine wpQuiet_nil ?_; intro w2 hw2)
                      go_wp2
                      go_ret
                      exact ⟨ret_bool HR.out.symm, hBv.trans (hw2.out.mono (by omega))⟩
                    · have dt : decide (turnV (nth l i).x (nth l i).y (nth l m).x (nth l m).y (nth l k).x (nth l k).y ≤ 0) = false := by simpa using ht
                      have Ht := Lib.hid ht
                      clear ht
                      go_wp2
                      (refine wp_region_low (by kernel_rfl) (by kernel_rfl) ?_; (iterate 30 (apply quiet_want; (case hw => rfl); (case hval => (intro w1 hw1; have hcx := Low.cells hw1; simp only [Oper.quietAt]; go_simp; first | done | (first | (go_at_call 63; exact Low.calls hw1 (cross_any _ _ _ _ _ _ _ (by omega) (by omega) (by omega) (by omega) (by omega) (by omega) (by omega) (by omega) (by omega) (by omega) (by omega) (by omega)))) | rfl | exact ⟨rfl, rfl⟩)); simp only [Act.put, List.setIfInBounds_toArray, List.set_cons_zero, List.set_cons_succ])); refine wpQuiet_nil ?_; intro w2 hw2)
                      go_wp2
                      go_roundw
                      case rel =>
                        refine ⟨k + 1, by omega, by simp, fun j hj => ?_, hBv.trans (hw2.out.mono (by omega))⟩
                        by_cases e : j = k
                        · subst e; intro _ _; rw [HM.out]; have := Ht.out; simp only [turnP]; omega
                        · exact hlt'.out j (by omega)
                      case measure => simp [intOf]; omega
              · obtain rfl : k = l.length := by omega
                go_wp2
                go_roundw
                case rel =>
                  refine ⟨i + 1, by omega, by simp, fun h j hj => ?_, hBv⟩
                  by_cases e : j = i
                  · subst e; exact hlt'.out
                  · exact hlf'.out h j (by omega)
                case measure => simp [intOf]; omega

theorem rvalid_any (v : Value) (l : List Pt) (w : World) (hp : PtsAt w.heap.size w v l) :
    Calls Tryz.prog 33 #[v] w fun e w' => e = .returned (.bool (refValid l)) ∧ Below w.heap.size w w' := by
  by_cases h : 1 ≤ l.length ∧ l.length ≤ 64
  · exact rvalid_two v l w hp h.1 h.2
  · exact rvalid_size v l w hp (by omega)
end Go.Proofs.YtdpnhckbabjagaaGreat

namespace Go.Proofs.YtdpnhckbabjagaaGreat

theorem turnP_self (a c : Pt) : turnP a a c = 0 := by unfold turnP turnV; simp
theorem turnP_swap (a b d : Pt) : turnP a d b = -turnP a b d := by
  unfold turnP turnV
  rw [Int.mul_comm (d.x - a.x), Int.mul_comm (d.y - a.y)]
  omega
theorem cmpP_self (a : Pt) : cmpP a a = 0 := by simp [cmpP, cmpV, orI, cmpI]

theorem go_distinct {l : List Pt} (hl : ∀ k, 1 ≤ k → k < l.length → cmpP (nth l 0) (nth l k) < 0)
    (hg : ∀ i, i < l.length → ∀ k, k < l.length → nth l k ≠ nth l i → nth l k ≠ nth l ((i + 1) % l.length) → 0 < turnP (nth l i) (nth l ((i + 1) % l.length)) (nth l k)) :
    ∀ (t j k : Nat), l.length - k = t → j < k → k < l.length → nth l j ≠ nth l k := by
  have h0 : ∀ k, 1 ≤ k → k < l.length → nth l 0 ≠ nth l k := fun k h1 h2 e => by
    have := hl k h1 h2
    rw [← e, cmpP_self] at this
    omega
  intro t
  induction t using Nat.strongRecOn with
  | _ t ih =>
    intro j k ht hjk hk e
    have hj : 1 ≤ j := by
      rcases Nat.eq_zero_or_pos j with h | h
      · subst h; exact absurd e (h0 k hjk hk)
      · exact h
    have hj1 : (j + 1) % l.length = j + 1 := Nat.mod_eq_of_lt (by omega)
    have n0 : nth l 0 ≠ nth l j := h0 j hj (by omega)
    have n0k : nth l 0 ≠ nth l k := h0 k (by omega) hk
    -- the corners behind both differ
    have hne : nth l (j + 1) ≠ nth l ((k + 1) % l.length) := by
      by_cases hk1 : k + 1 = l.length
      · rw [hk1, Nat.mod_self]
        exact fun h => h0 (j + 1) (by omega) (by omega) h.symm
      · rw [Nat.mod_eq_of_lt (by omega)]
        exact ih (l.length - (k + 1)) (by omega) (j + 1) (k + 1) rfl (by omega) (by omega)
    have hAB : nth l j ≠ nth l (j + 1) := fun h => by
      have := hg j (by omega) 0 (by omega) n0 (by rw [hj1, ← h]; exact n0)
      rw [hj1, ← h, turnP_self] at this
      omega
    have hAD : nth l k ≠ nth l ((k + 1) % l.length) := fun h => by
      have := hg k hk 0 (by omega) n0k (by rw [← h]; exact n0k)
      rw [← h, turnP_self] at this
      omega
    have hm : (k + 1) % l.length < l.length := Nat.mod_lt _ (by omega)
    have t1 := hg j (by omega) ((k + 1) % l.length) hm (by rw [e]; exact Ne.symm hAD) (by rw [hj1]; exact Ne.symm hne)
    have t2 := hg k hk (j + 1) (by omega) (by rw [← e]; exact Ne.symm hAB) hne
    rw [hj1] at t1
    rw [← e, turnP_swap] at t2
    omega

theorem go_iff_ref (l : List Pt) : GoValid l ↔ RefValid l := by
  constructor
  · rintro ⟨h1, h2, h3, h4⟩
    have hl : ∀ k, 1 ≤ k → k < l.length → cmpP (nth l 0) (nth l k) < 0 := fun k a b => (h3 k b).2 (by omega)
    refine ⟨h1, h2, fun k hk => (h3 k hk).1, hl, fun hn i hi k hk hki hkm => ?_⟩
    have hg := h4 (by omega)
    have hd := go_distinct hl hg
    have ne : ∀ a b, a < l.length → b < l.length → a ≠ b → nth l a ≠ nth l b := fun a b ha hb hab => by
      rcases Nat.lt_or_gt_of_ne hab with h | h
      · exact hd _ a b rfl h hb
      · exact fun e => hd _ b a rfl h ha e.symm
    exact hg i hi k hk (ne k i hk hi hki) (ne k _ hk (Nat.mod_lt _ (by omega)) hkm)
  · rintro ⟨h1, h2, h3, h4, h5⟩
    refine ⟨h1, h2, fun k hk => ⟨h3 k hk, fun h => h4 k h hk⟩, fun hn i hi k hk a b => ?_⟩
    exact h5 (by omega) i hi k hk (fun e => a (by rw [e]; rfl)) (fun e => b (by rw [e]; rfl))

theorem go_eq_ref (l : List Pt) : goValid l = refValid l := by
  rw [Bool.eq_iff_iff]
  simp only [goValid, refValid, decide_eq_true_eq]
  exact go_iff_ref l
end Go.Proofs.YtdpnhckbabjagaaGreat

namespace Go.Proofs.YtdpnhckbabjagaaGreat
open Go.RowKit
attribute [local irreducible] wpQuiet

theorem refValid_go (l : List Pt) : refValid l = goValid l := by
  have h := go_iff_ref l
  cases h1 : refValid l <;> cases h2 : goValid l <;> simp only [refValid, goValid, decide_eq_true_eq, decide_eq_false_iff_not] at h1 h2 <;> first | rfl | exact absurd (h.1 h2) h1 | exact absurd (h.2 h1) h2
set_option linter.unusedSimpArgs false in
set_option maxHeartbeats 800000 in
set_option maxRecDepth 8000 in
theorem rsquare_any (a b : Pt) (w : World) (ha : placeP a = true) (hb : placeP b = true) :
    Calls Tryz.prog 23 #[.agg #[.int .i64 a.x, .int .i64 a.y], .agg #[.int .i64 b.x, .int .i64 b.y]] w fun e w' => e = .returned (.int .i64 (dsq a b)) ∧ Below w.heap.size w w' := by
  obtain ⟨⟨g0, g1, g2, g3⟩, g4, g5, g6, g7, g8⟩ := dsq_bd ha hb
  unfold dsq at *
  have z1 : IntKind.i64.wrap (a.x - b.x) = a.x - b.x := IntWalk.i64_in _ (by omega)
  have z2 : IntKind.i64.wrap (a.y - b.y) = a.y - b.y := IntWalk.i64_in _ (by omega)
  have z3 : IntKind.i64.wrap ((a.x - b.x) * (a.x - b.x)) = (a.x - b.x) * (a.x - b.x) := IntWalk.i64_in _ (by omega)
  have z4 : IntKind.i64.wrap ((a.y - b.y) * (a.y - b.y)) = (a.y - b.y) * (a.y - b.y) := IntWalk.i64_in _ (by omega)
  have z5 : IntKind.i64.wrap ((a.x - b.x) * (a.x - b.x) + (a.y - b.y) * (a.y - b.y)) = (a.x - b.x) * (a.x - b.x) + (a.y - b.y) * (a.y - b.y) := IntWalk.i64_in _ (by omega)
  clear g0 g1 g2 g3 g4 g5 g6 g7 g8 ha hb
  generalize a.x = ax at *
  generalize a.y = ay at *
  generalize b.x = bx at *
  generalize b.y = by' at *
  have B0 := Lib.hid (((Below.refl w.heap.size w).alloc (Nat.le_refl _) (.cells #[.int .i64 ax, .int .i64 ay] 44)).alloc (by simp) (.cells #[.int .i64 bx, .int .i64 by'] 44))
  go_enter Tryz.func23, Tryz.ntmps23
  go_wp2
  go_ret
  exact ⟨rfl, B0.out⟩

set_option linter.unusedSimpArgs false in
set_option linter.unusedVariables false in
set_option maxHeartbeats 2400000 in
set_option maxRecDepth 8000 in
theorem rreach_any (va vb : Value) (a b : List Pt) (w : World) (hpa : PtsAt w.heap.size w va a) (hpb : PtsAt w.heap.size w vb b) (ha : ∀ k, k < a.length → placeP (nth a k) = true) (hb : ∀ k, k < b.length → placeP (nth b k) = true) :
    Calls Tryz.prog 34 #[va, vb] w fun e w' => e = .returned (.int .i64 (rootUp (reachK a b a.length))) ∧ Below w.heap.size w w' := by
  have FR := Lib.hid (fun w1 => rootUp_any (reachK a b a.length) w1 (reachK_bd ha hb _ (Nat.le_refl _)).1 (by have := (reachK_bd ha hb _ (Nat.le_refl _)).2; omega))
  have FS := Lib.hid (fun k j w1 (hk : k < a.length) (hj : j < b.length) => rsquare_any (nth a k) (nth b j) w1 (ha k hk) (hb j hj))
  have HF := Lib.hid (fun k => show reachK a b (k + 1) = if reachK a b k < farK (nth a k) b b.length then farK (nth a k) b b.length else reachK a b k from rfl)
  have HJ := Lib.hid (fun x j => show farK x b (j + 1) = if farK x b j < dsq x (nth b j) then dsq x (nth b j) else farK x b j from rfl)
  have H0 := Lib.hid (fun k (hk : k ≤ a.length) => (reachK_bd ha hb k hk).1)
  obtain ⟨hla, aa, ca, rfl, hca⟩ := hpa
  obtain ⟨hlb, ab, cb, rfl, hcb⟩ := hpb
  have hA := Lib.hid hca
  have hB' := Lib.hid hcb
  have B0 := Lib.hid (Below.refl w.heap.size w)
  clear hca hcb ha hb
  go_enter Tryz.func34, Tryz.ntmps34
  go_wp2
  go_loopw [5, 6] (fun n i wr => ∃ k : Nat, k ≤ a.length ∧ i = .int .i64 (k : Int) ∧ n = .int .i64 (reachK a b k) ∧ Below w.heap.size w wr) (fun _ i _ => a.length - (intOf i).toNat)
  case atStart => exact ⟨0, by omega, rfl, rfl, Below.refl _ _⟩
  case round =>
    obtain ⟨k, hk, rfl, rfl, hB⟩ := hrel
    by_cases hlt : k < a.length
    · have dk : decide ((k : Int) < (a.length : Int)) = true := by simp; omega
      have BR := Lib.hid hB
      have hzB := hB.size
      obtain ⟨wq, hwq⟩ : ∃ x, x = wr := ⟨_, rfl⟩
      subst hwq
      clear hB
      obtain ⟨R0, hR0⟩ : ∃ t, t = reachK a b k := ⟨_, rfl⟩
      have r0 := H0.out k hk
      have HR := Lib.hid hR0
      rw [← hR0] at r0 ⊢
      clear hR0
      go_wp2
      go_loopw [5, 7] (fun n i wr => ∃ j : Nat, j ≤ b.length ∧ i = .int .i64 (j : Int) ∧ n = .int .i64 (if R0 < farK (nth a k) b j then farK (nth a k) b j else R0) ∧ Below w.heap.size w wr) (fun _ i _ => b.length - (intOf i).toNat)
      case atStart =>
        have h : ¬ R0 < 0 := by omega
        exact ⟨0, by omega, rfl, by simp [farK, h], BR.out⟩
      case round =>
        obtain ⟨j, hj, rfl, rfl, hB⟩ := hrel
        have hzj := hB.size
        by_cases hlj : j < b.length
        · obtain ⟨b1, o1, rfl, hb1, hc1⟩ : ∃ b o, aa = some ⟨b, o, none⟩ ∧ b < w.heap.size ∧ ∀ j, j < a.length → w.cell? ⟨b, o + j * 2, none⟩ = some (.int .i64 (nth a j).x) ∧ w.cell? ⟨b, o + j * 2 + 1, none⟩ = some (.int .i64 (nth a j).y) := by
            rcases hA.out with h | h
            · rw [h] at hlt; simp at hlt
            · exact h
          obtain ⟨b2, o2, rfl, hb2, hc2⟩ : ∃ b' o, ab = some ⟨b', o, none⟩ ∧ b' < w.heap.size ∧ ∀ j, j < b.length → w.cell? ⟨b', o + j * 2, none⟩ = some (.int .i64 (nth b j).x) ∧ w.cell? ⟨b', o + j * 2 + 1, none⟩ = some (.int .i64 (nth b j).y) := by
            rcases hB'.out with h | h
            · rw [h] at hlj; simp at hlj
            · exact h
          have p0 := Low.fact ((hB.cell (p := ⟨b1, o1 + k * 2, none⟩) hb1).trans (hc1 k hlt).1)
          have p1 := Low.fact ((hB.cell (p := ⟨b1, o1 + k * 2 + 1, none⟩) hb1).trans (hc1 k hlt).2)
          have p2 := Low.fact ((hB.cell (p := ⟨b2, o2 + j * 2, none⟩) hb2).trans (hc2 j hlj).1)
          have p3 := Low.fact ((hB.cell (p := ⟨b2, o2 + j * 2 + 1, none⟩) hb2).trans (hc2 j hlj).2)
          have fs := fun w1 => FS.out k j w1 hlt hlj
          have hF := Lib.hid (HJ.out (nth a k) j)
          have dj : decide ((j : Int) < (b.length : Int)) = true := by simp; omega
          have kl : (k : Int) < a.length := by omega
          have k0 : (0 : Int) ≤ k := by omega
          have jl : (j : Int) < b.length := by omega
          have j0 : (0 : Int) ≤ j := by omega
          obtain ⟨R1, hR1⟩ : ∃ t, t = (if R0 < farK (nth a k) b j then farK (nth a k) b j else R0) := ⟨_, rfl⟩
          have HR1 := Lib.hid hR1
          rw [← hR1]
          clear hR1
          generalize dsq (nth a k) (nth b j) = D at *
          have BJ := Lib.hid hB
          clear hc1 hc2 hB
          replace fs := Lib.hid fs
          generalize (nth a k).x = ax at p0 p1 p2 p3 fs
          generalize (nth a k).y = ay at p0 p1 p2 p3 fs
          generalize (nth b j).x = bx at p0 p1 p2 p3 fs
          generalize (nth b j).y = by' at p0 p1 p2 p3 fs
          go_wp2
          (refine wp_region_low (by kernel_rfl) (by kernel_rfl) ?_; (iterate 12 (apply quiet_want; (case hw => rfl); (case hval => (intro w1 hw1; have hcx := Low.cells hw1; simp only [Oper.quietAt]; go_simp; first | done | (first | (go_at_call 23; exact Low.calls hw1 (fs.out _))) | rfl | exact ⟨rfl, rfl⟩)); simp only [Act.put, List.setIfInBounds_toArray, List.set_cons_zero, List.set_cons_succ])); refine wpQuiet_nil ?_; intro w2 hw2)
          have BZ := Lib.hid (BJ.out.trans (hw2.out.mono hzj))
          clear hw2 p0 p1 p2 p3
          go_wp2
          go_roundw
          case rel =>
            refine ⟨j + 1, by omega, by go_num, ?_, BZ.out⟩
            rw [hF.out, HR1.out]
            congr 1
            repeat' split
            all_goals omega
          case measure => simp [intOf]; omega
        · obtain rfl : j = b.length := by omega
          have dj : decide ((b.length : Int) < (b.length : Int)) = false := by simp
          have BZ := Lib.hid hB
          clear hB
          go_wp2
          go_roundw
          case rel => exact ⟨k + 1, by omega, by go_num, by rw [HF.out, ← HR.out], BZ.out⟩
          case measure => simp [intOf]; omega
    · obtain rfl : k = a.length := by omega
      have dk : decide ((a.length : Int) < (a.length : Int)) = false := by simp
      have BZ := Lib.hid hB
      clear hB
      go_wp2_with fail
      refine (FR.out _).mono ?_
      rintro e w3 ⟨rfl, rfl⟩
      go_wp2
      go_ret
      exact ⟨rfl, BZ.out⟩

set_option linter.unusedSimpArgs false in
set_option linter.unusedVariables false in
set_option maxHeartbeats 1600000 in
set_option maxRecDepth 8000 in
theorem rrange_any (va vb : Value) (a b : List Pt) (w : World) (ha : PtsAt w.heap.size w va a) (hb : PtsAt w.heap.size w vb b) :
    Calls Tryz.prog 14 #[va, vb] w fun e w' => e = .returned (.tuple #[.int .i64 (rangeV a b), .int .i64 (rangeE a b)]) ∧ Below w.heap.size w w' := by
  have f1 := fun w1 h => rvalid_any va a w1 h
  have f2 := fun w1 h => rvalid_any vb b w1 h
  rw [refValid_go] at f1 f2
  have PA := Lib.hid ha
  have PB := Lib.hid hb
  have B0 := Lib.hid (Below.refl w.heap.size w)
  clear ha hb
  cases h1 : goValid a
  · have e1 : rangeV a b = 0 := by simp [rangeV, trB, h1]
    have e2 : rangeE a b = 1 := by simp [rangeE, trB, h1]
    rw [h1] at f1
    rw [e1, e2]
    replace f1 := Lib.hid f1
    replace f2 := Lib.hid f2
    generalize goValid b = gb at *
    clear h1 e1 e2
    go_enter Tryz.func14, Tryz.ntmps14
    go_wp2_with fail
    refine (f1.out _ PA.out).mono ?_
    rintro e w1 ⟨rfl, b1⟩
    replace PB := Lib.hid ((PB.out.below b1).mono b1.size)
    have B1 := Lib.hid (B0.out.trans (b1.mono B0.out.size))
    clear b1
    go_wp2_with fail
    refine (f2.out _ PB.out).mono ?_
    rintro e w2 ⟨rfl, b2⟩
    have B2 := Lib.hid (B1.out.trans (b2.mono B1.out.size))
    clear b2
    go_wp2
    go_ret2
    exact ⟨rfl, B2.out⟩
  rw [h1] at f1
  replace f1 := Lib.hid f1
  cases h2 : goValid b
  · have e1 : rangeV a b = 0 := by simp [rangeV, trB, h2]
    have e2 : rangeE a b = 1 := by simp [rangeE, trB, h2]
    rw [h2] at f2
    rw [e1, e2]
    replace f2 := Lib.hid f2
    clear h1 h2 e1 e2
    go_enter Tryz.func14, Tryz.ntmps14
    go_wp2_with fail
    refine (f1.out _ PA.out).mono ?_
    rintro e w1 ⟨rfl, b1⟩
    replace PB := Lib.hid ((PB.out.below b1).mono b1.size)
    have B1 := Lib.hid (B0.out.trans (b1.mono B0.out.size))
    clear b1
    go_wp2_with fail
    refine (f2.out _ PB.out).mono ?_
    rintro e w2 ⟨rfl, b2⟩
    have B2 := Lib.hid (B1.out.trans (b2.mono B1.out.size))
    clear b2
    go_wp2
    go_ret2
    exact ⟨rfl, B2.out⟩
  rw [h2] at f2
  replace f2 := Lib.hid f2
  have e1 : rangeV a b = rootUp (reachK a b a.length) := by simp [rangeV, trB, h1, h2]
  have e2 : rangeE a b = 0 := by simp [rangeE, trB, h1, h2]
  rw [e1, e2]
  have G1 : GoValid a := by simpa [goValid] using h1
  have G2 : GoValid b := by simpa [goValid] using h2
  have fr := Lib.hid (fun w1 p1 p2 => rreach_any va vb a b w1 p1 p2 (fun k hk => (G1.2.2.1 k hk).1) (fun k hk => (G2.2.2.1 k hk).1))
  generalize rootUp (reachK a b a.length) = R at *
  clear e1 e2 G1 G2 h1 h2
  go_enter Tryz.func14, Tryz.ntmps14
  go_wp2_with fail
  refine (f1.out _ PA.out).mono ?_
  rintro e w1 ⟨rfl, b1⟩
  replace PA := Lib.hid ((PA.out.below b1).mono b1.size)
  replace PB := Lib.hid ((PB.out.below b1).mono b1.size)
  have B1 := Lib.hid (B0.out.trans (b1.mono B0.out.size))
  clear b1
  go_wp2_with fail
  refine (f2.out _ PB.out).mono ?_
  rintro e w2 ⟨rfl, b2⟩
  replace PA := Lib.hid ((PA.out.below b2).mono b2.size)
  replace PB := Lib.hid ((PB.out.below b2).mono b2.size)
  have B2 := Lib.hid (B1.out.trans (b2.mono B1.out.size))
  clear b2
  go_wp2_with fail
  refine (fr.out _ PA.out PB.out).mono ?_
  rintro e w3 ⟨rfl, b3⟩
  have B3 := Lib.hid (B2.out.trans (b3.mono B2.out.size))
  clear b3
  go_wp2
  go_ret2
  exact ⟨rfl, B3.out⟩
end Go.Proofs.YtdpnhckbabjagaaGreat

namespace Go.Proofs.YtdpnhckbabjagaaGreat
open Go.RowKit
attribute [local irreducible] wpQuiet

/-- the least, the greatest number that a function makes of the first k corners (and the first one) -/
def loTo (f : Pt → Int) (l : List Pt) : Nat → Int
  | 0 => f (nth l 0)
  | k + 1 => if f (nth l k) < loTo f l k then f (nth l k) else loTo f l k
def hiTo (f : Pt → Int) (l : List Pt) : Nat → Int
  | 0 => f (nth l 0)
  | k + 1 => if hiTo f l k < f (nth l k) then f (nth l k) else hiTo f l k
def bxF1 (p : Pt) : Int := p.x
def bxF2 (p : Pt) : Int := p.y



end Go.Proofs.YtdpnhckbabjagaaGreat

namespace Go.Proofs.YtdpnhckbabjagaaGreat
open Go.RowKit
attribute [local irreducible] wpQuiet



/-- two numbers have different signs -/
def crossB (s t : Int) : Bool := decide (s < 0 ∧ 0 < t ∨ 0 < s ∧ t < 0)

end Go.Proofs.YtdpnhckbabjagaaGreat

namespace Go.Proofs.YtdpnhckbabjagaaGreat
open Go.RowKit Go.Shelf

section
variable {F : Fence} {n : Nat} {P : Program}
/-- the slots T of the loop's function need not be written: up says what a round's assignments make of them, Hx what they lay (at B) -/
theorem wpIn_rangeK {α : Type} {g : Operand} {ps : Array Tmp} {assign body : Code} {Q : Exit → Act → World → Prop} {T : Array Value} {w : World}
    (hro : F.round = none) (h1 : 1 ≤ n) {gf : Nat} {lb : Array Value} (hg : ({ tmps := T, defers := [] } : Act).eval g = .func (.func gf) #[] lb) (hFg : F.fn gf) (eg : ∀ args w, (callFunc gf args).run P w = .ok (.enter gf args) w)
    {encs : α → Array Value} {Kp : World → World → Prop} {S Sp : List α → Prop} {N : Nat} {w0 : World} (hseq : SeqStopsK F (n - 1) P gf lb encs Kp S Sp N w0)
    (hKt : ∀ {A B C : World}, Kp A B → Kp B C → Kp A C) (hKb : ∀ (W : World) (l : Nat) (o o' : Obj), w.heap.size ≤ l → W.heap[l]? = some o → o.isCells = false → o.isWalk = false → Kp W (W.putObj l o')) (hb0 : Below w0.heap.size w0 w) (hps : ∀ x, (encs x).size = ps.size)
    (I : List α → World → Prop) (Ix : Code → List α → World → Prop) (hI : OwnFrom w.heap.size I) (hIx : ∀ c, OwnFrom w.heap.size (Ix c)) (h0 : I [] w)
    (up : Array Value → α → Nat → Array Value) (Hx : α → Nat → World → Prop) (hHx : ∀ x B, OwnFrom w.heap.size (fun (_ : Unit) W => Hx x B W))
    (hassign : ∀ (l : Nat) (pre : List α) (x : α) (W : World) (K : Act → World → Prop), I pre W → (∀ B W', KeepsFrom w.heap.size W W' → Kp W W' → I pre W' → Hx x B W' → K { tmps := up T x B, defers := [] } W') →
      assign.wpIn (F.inRound l) (n - 1 - 1) P (Exit.then K (fun _ _ _ => False)) { tmps := (ps.zip (encs x)).foldl (fun t (p, v) => t.setIfInBounds p v) T, defers := [] } W)
    (hbody : ∀ (l : Nat) (pre : List α) (x : α) (B : Nat) (W : World), w.heap.size ≤ l → (∃ r, W.heap[l]? = some (.loop r)) → I pre W → Hx x B W → pre.length < N → body.wpIn (F.inRound l) (n - 1 - 1) P (ownPostG w.heap.size Kp I Ix (pre ++ [x]) W) { tmps := up T x B, defers := [] } W)
    (hdone : ∀ (D : Nat) (xs : List α) (W : World), w.heap.size ≤ D → S xs → I xs W → W.heap[D]? = some (.deferred (some [])) → Q .normal { tmps := T, defers := [{ target := .collected D, args := #[] }] } W)
    (hstop : ∀ (D : Nat) (c : Code) (pre : List α) (W : World), w.heap.size ≤ D → Sp pre → Ix c pre W → W.heap[D]? = some (.deferred (some [])) → c.wpIn F n P Q { tmps := T, defers := [{ target := .collected D, args := #[] }] } W) :
    (Code.rangeFunc g ps assign body).wpIn F n P Q { tmps := T, defers := [] } w := by
  refine wpIn_rangeFunc_ownH hro h1 hg hFg eg hseq hKt hKb hb0 hps I Ix hI hIx h0 (fun x a' W => ∃ B, Hx x B W ∧ a' = { tmps := up T x B, defers := [] })
    (fun x a' _ X Y row hs hg hr => by obtain ⟨B, h, e⟩ := hs; exact ⟨B, hHx x B () X Y row h hg hr, e⟩) ?_ ?_ hdone hstop
  · intro l pre x W K hi hK
    exact hassign l pre x W K hi fun B W' k1 k2 k3 k4 => hK _ W' k1 k2 k3 ⟨B, k4, rfl⟩
  · rintro l pre x a' W hl hr hi ⟨B, hb, rfl⟩ hlt
    exact hbody l pre x B W hl hr hi hb hlt
end
/-- a block laid in a round stays -/
theorem ownFrom_has (n B : Nat) (cs : Array Value) (t : TypeId) : OwnFrom n (fun (_ : Unit) W => Has W B cs t) := fun _ _ _ _ hs hg hr => has_kept hs hg (fun r e => (hr r e).2)
end Go.Proofs.YtdpnhckbabjagaaGreat
