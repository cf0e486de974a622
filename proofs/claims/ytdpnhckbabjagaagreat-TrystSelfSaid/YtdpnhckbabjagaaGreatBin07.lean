/- The reference of layer 3: Less, Cross, Valid. | The reference's Valid of layer 3. | Both functions Valid of layer 3 say the same. | package hull: ends, Box. | package cut: turn, crosses, floor; the reference's Down, Up in a wider range, differ. | A range over a function whose loop's variables are laid in a block each round: the law with the loop's slots left open. | New blocks, one behind the other: what is known of them, from the world behind them. -/
import Derived.Test.YtdpnhckbabjagaaGreatBin03
import Derived.Test.YtdpnhckbabjagaaGreatBin01
import Derived.Test.YtdpnhckbabjagaaGreatBin06
namespace Go.Proofs.YtdpnhckbabjagaaGreat
open Go.RowKit Go.Shelf
attribute [local irreducible] wpQuiet

theorem cmpV_lt_iff (ax ay bx by' : Int) : cmpV ax ay bx by' < 0 ↔ ax < bx ∨ ax = bx ∧ ay < by' := by
  unfold cmpV orI cmpI
  repeat' split
  all_goals omega
def lessB (ax ay bx by' : Int) : Bool := decide (cmpV ax ay bx by' < 0)

theorem rless_any (ax ay bx by' : Int) (w : World) :
    Calls Tryz.prog 62 #[.agg #[.int .i64 ax, .int .i64 ay], .agg #[.int .i64 bx, .int .i64 by']] w fun e w' => e = .returned (.bool (lessB ax ay bx by')) ∧ Below w.heap.size w w' := by
  rcases Int.lt_trichotomy ax bx with h | rfl | h
  · have e : lessB ax ay bx by' = true := by simp only [lessB, decide_eq_true_eq, cmpV_lt_iff]; omega
    rw [e]; clear e
    go_enter Tryz.func62, Tryz.ntmps62
    go_wp2
    go_ret
    exact ⟨rfl, by repeat (first | exact Below.refl _ _ | assumption | apply Below.drew | refine Below.setCell ?_ (by first | omega | (simp; done) | (simp; omega)) _ | refine Below.alloc ?_ (by first | omega | (simp; done) | (simp; omega)) _ | refine Below.call (by assumption) ?_ (by first | omega | (simp; done) | (simp; omega)))⟩
  · by_cases h2 : ay < by'
    · have e : lessB ax ay ax by' = true := by simp only [lessB, decide_eq_true_eq, cmpV_lt_iff]; exact Or.inr ⟨trivial, h2⟩
      rw [e]; clear e
      go_enter Tryz.func62, Tryz.ntmps62
      go_wp2
      go_ret
      exact ⟨rfl, by repeat (first | exact Below.refl _ _ | assumption | apply Below.drew | refine Below.setCell ?_ (by first | omega | (simp; done) | (simp; omega)) _ | refine Below.alloc ?_ (by first | omega | (simp; done) | (simp; omega)) _ | refine Below.call (by assumption) ?_ (by first | omega | (simp; done) | (simp; omega)))⟩
    · have e : lessB ax ay ax by' = false := by simp only [lessB, decide_eq_false_iff_not, cmpV_lt_iff]; rintro (h | ⟨_, h⟩) <;> omega
      have d : decide (ay < by') = false := by simpa using h2
      rw [e]; clear e
      go_enter Tryz.func62, Tryz.ntmps62
      go_wp2
      go_ret
      exact ⟨rfl, by repeat (first | exact Below.refl _ _ | assumption | apply Below.drew | refine Below.setCell ?_ (by first | omega | (simp; done) | (simp; omega)) _ | refine Below.alloc ?_ (by first | omega | (simp; done) | (simp; omega)) _ | refine Below.call (by assumption) ?_ (by first | omega | (simp; done) | (simp; omega)))⟩
  · have e : lessB ax ay bx by' = false := by simp only [lessB, decide_eq_false_iff_not, cmpV_lt_iff]; omega
    have d : decide (ax < bx) = false := by simp; omega
    have d2 : (ax == bx) = false := by simp; omega
    rw [e]; clear e
    go_enter Tryz.func62, Tryz.ntmps62
    go_wp2
    go_ret
    exact ⟨rfl, by repeat (first | exact Below.refl _ _ | assumption | apply Below.drew | refine Below.setCell ?_ (by first | omega | (simp; done) | (simp; omega)) _ | refine Below.alloc ?_ (by first | omega | (simp; done) | (simp; omega)) _ | refine Below.call (by assumption) ?_ (by first | omega | (simp; done) | (simp; omega)))⟩

theorem cross_any (ax ay bx by' cx cy : Int) (w : World) (a1 : -1000000 ≤ ax) (a2 : ax ≤ 1000000) (a3 : -1000000 ≤ ay) (a4 : ay ≤ 1000000)
    (b1 : -1000000 ≤ bx) (b2 : bx ≤ 1000000) (b3 : -1000000 ≤ by') (b4 : by' ≤ 1000000) (c1 : -1000000 ≤ cx) (c2 : cx ≤ 1000000) (c3 : -1000000 ≤ cy) (c4 : cy ≤ 1000000) :
    Calls Tryz.prog 63 #[.agg #[.int .i64 ax, .int .i64 ay], .agg #[.int .i64 bx, .int .i64 by'], .agg #[.int .i64 cx, .int .i64 cy]] w fun e w' => e = .returned (.int .i64 (turnV ax ay bx by' cx cy)) ∧ Below w.heap.size w w' := by
  have p := prod_bd (a := bx - ax) (b := cy - ay) (m := 2000000) (n := 2000000) (by omega) (by omega) (by omega) (by omega)
  have q := prod_bd (a := by' - ay) (b := cx - ax) (m := 2000000) (n := 2000000) (by omega) (by omega) (by omega) (by omega)
  have p' : IntKind.i64.wrap ((bx - ax) * (cy - ay)) = (bx - ax) * (cy - ay) := IntWalk.i64_in _ (by omega)
  have q' : IntKind.i64.wrap ((by' - ay) * (cx - ax)) = (by' - ay) * (cx - ax) := IntWalk.i64_in _ (by omega)
  have r' : IntKind.i64.wrap ((bx - ax) * (cy - ay) - (by' - ay) * (cx - ax)) = (bx - ax) * (cy - ay) - (by' - ay) * (cx - ax) := IntWalk.i64_in _ (by omega)
  clear p q
  unfold turnV
  go_enter Tryz.func63, Tryz.ntmps63
  go_wp2
  go_ret
  exact ⟨rfl, by repeat (first | exact Below.refl _ _ | assumption | apply Below.drew | refine Below.setCell ?_ (by first | omega | (simp; done) | (simp; omega)) _ | refine Below.alloc ?_ (by first | omega | (simp; done) | (simp; omega)) _ | refine Below.call (by assumption) ?_ (by first | omega | (simp; done) | (simp; omega)))⟩

def RefValid (l : List Pt) : Prop := 1 ≤ l.length ∧ l.length ≤ 64 ∧ (∀ k, k < l.length → placeP (nth l k) = true) ∧ (∀ k, 1 ≤ k → k < l.length → cmpP (nth l 0) (nth l k) < 0) ∧
  (2 < l.length → ∀ i, i < l.length → ∀ k, k < l.length → k ≠ i → k ≠ (i + 1) % l.length → 0 < turnP (nth l i) (nth l ((i + 1) % l.length)) (nth l k))
open Classical in
noncomputable def refValid (l : List Pt) : Bool := decide (RefValid l)

/-- the corners from 1 to k - 1 are greater than the first one -/
def lessTo (l : List Pt) (k : Nat) : Prop := ∀ j, 1 ≤ j → j < k → cmpP (nth l 0) (nth l j) < 0
/-- side i has all corners before k on its left -/
def leftTo (l : List Pt) (i k : Nat) : Prop := ∀ j, j < k → j ≠ i → j ≠ (i + 1) % l.length → 0 < turnP (nth l i) (nth l ((i + 1) % l.length)) (nth l j)

theorem rvalid_size (v : Value) (l : List Pt) (w : World) (hp : PtsAt w.heap.size w v l) (hs : l.length < 1 ∨ 64 < l.length) :
    Calls Tryz.prog 33 #[v] w fun e w' => e = .returned (.bool (refValid l)) ∧ Below w.heap.size w w' := by
  have hr : refValid l = false := by simp only [refValid, decide_eq_false_iff_not]; rintro ⟨h1, h2, _⟩; omega
  rw [hr]; clear hr
  obtain ⟨hl, a, cap, rfl, hc⟩ := hp
  clear hc
  rcases hs with hs | hs
  · have d : decide ((l.length : Int) < 1) = true := by simp; omega
    have hs' := Lib.hid hs
    clear hs
    go_enter Tryz.func33, Tryz.ntmps33
    go_wp2
    go_ret
    exact ⟨rfl, by repeat (first | exact Below.refl _ _ | assumption | apply Below.drew | refine Below.setCell ?_ (by first | omega | (simp; done) | (simp; omega)) _ | refine Below.alloc ?_ (by first | omega | (simp; done) | (simp; omega)) _ | refine Below.call (by assumption) ?_ (by first | omega | (simp; done) | (simp; omega)))⟩
  · have d : decide ((l.length : Int) < 1) = false := by simp; omega
    have d : decide (64 < (l.length : Int)) = true := by simp; omega
    have hs' := Lib.hid hs
    clear hs
    go_enter Tryz.func33, Tryz.ntmps33
    go_wp2
    go_ret
    exact ⟨rfl, by repeat (first | exact Below.refl _ _ | assumption | apply Below.drew | refine Below.setCell ?_ (by first | omega | (simp; done) | (simp; omega)) _ | refine Below.alloc ?_ (by first | omega | (simp; done) | (simp; omega)) _ | refine Below.call (by assumption) ?_ (by first | omega | (simp; done) | (simp; omega)))⟩
end Go.Proofs.YtdpnhckbabjagaaGreat

namespace Go.Proofs.YtdpnhckbabjagaaGreat
open Go.RowKit Go.Shelf
attribute [local irreducible] wpQuiet

set_option maxRecDepth 100000 in
set_option maxHeartbeats 4000000 in
theorem rvalid_two (v : Value) (l : List Pt) (w : World) (hp : PtsAt w.heap.size w v l) (h1 : 1 ≤ l.length) (h2 : l.length ≤ 64) :
    Calls Tryz.prog 33 #[v] w fun e w' => e = .returned (.bool (refValid l)) ∧ Below w.heap.size w w' := by
  have HP := Lib.hid (fun w1 hlow => places_any v l w1 ((hp.below hlow).mono hlow.size) : ∀ w1, Below w.heap.size w w1 → _)
  obtain ⟨hl, a, cap, rfl, hc⟩ := hp
  obtain ⟨b, o, rfl, hb, hc⟩ : ∃ b o, a = some ⟨b, o, none⟩ ∧ b < w.heap.size ∧ ∀ j, j < l.length → w.cell? ⟨b, o + j * 2, none⟩ = some (.int .i64 (nth l j).x) ∧ w.cell? ⟨b, o + j * 2 + 1, none⟩ = some (.int .i64 (nth l j).y) := by
    rcases hc with rfl | h
    · simp at h1
    · exact h
  have d1 : decide ((l.length : Int) < 1) = false := by simp; omega
  have d2 : decide (64 < (l.length : Int)) = false := by simp; omega
  have hc' := Lib.hid hc
  have hn0 : 0 < l.length := by omega
  have hne : ¬ l = [] := by intro h; rw [h] at hn0; simp at hn0
  clear hc
  cases hap : allPl l
  · have hr : refValid l = false := by
      simp only [refValid, decide_eq_false_iff_not]
      rintro ⟨_, _, h3, _⟩
      simp only [allPl, decide_eq_false_iff_not] at hap
      exact hap h3
    have HR := Lib.hid hr
    clear hr
    go_enter Tryz.func33, Tryz.ntmps33
    go_wp2_with (go_at_call 61; refine (HP.out _ (Below.refl _ _)).mono ?_; rintro e w1 ⟨rfl, hb1⟩; have hz1 := hb1.size; try simp at hz1)
    go_ret
    exact ⟨ret_bool HR.out.symm, by repeat (first | exact Below.refl _ _ | assumption | apply Below.drew | refine Below.setCell ?_ (by first | omega | (simp; done) | (simp; omega)) _ | refine Below.alloc ?_ (by first | omega | (simp; done) | (simp; omega)) _ | refine Below.call (by assumption) ?_ (by first | omega | (simp; done) | (simp; omega)))⟩
  · have hpl : ∀ k, k < l.length → placeP (nth l k) = true := by simpa only [allPl, decide_eq_true_eq] using hap
    have HPL := Lib.hid hpl
    clear hpl
    go_enter Tryz.func33, Tryz.ntmps33
    go_wp2_with (go_at_call 61; refine (HP.out _ (Below.refl _ _)).mono ?_; rintro e w1 ⟨rfl, hb1⟩; have hz1 := hb1.size; try simp at hz1)
    go_loopw [4] (fun i wr => ∃ k : Nat, 1 ≤ k ∧ k ≤ l.length ∧ i = .int .i64 k ∧ lessTo l k ∧ Below w.heap.size w wr) (fun i _ => l.length - (intOf i).toNat)
    case atStart => exact ⟨1, by omega, by omega, rfl, fun j h h' => by omega, hb1⟩
    case round =>
      obtain ⟨k, hk1, hk, rfl, hls, hB⟩ := hrel
      have hz := hB.size
      by_cases hlt : k < l.length
      · have c1 := Low.fact ((hB.cell (p := ⟨b, o + k * 2, none⟩) hb).trans (hc'.out k hlt).1)
        have c2 := Low.fact ((hB.cell (p := ⟨b, o + k * 2 + 1, none⟩) hb).trans (hc'.out k hlt).2)
        have c3 := Low.fact ((hB.cell (p := ⟨b, o + 0 * 2, none⟩) hb).trans (hc'.out 0 (by omega)).1)
        have c4 := Low.fact ((hB.cell (p := ⟨b, o + 0 * 2 + 1, none⟩) hb).trans (hc'.out 0 (by omega)).2)
        simp only [Nat.zero_mul, Nat.add_zero] at c3 c4
        have hls' := Lib.hid hls
        clear hls
        cases hls2 : lessB (nth l 0).x (nth l 0).y (nth l k).x (nth l k).y
        · have hr : refValid l = false := by
            simp only [refValid, decide_eq_false_iff_not]
            rintro ⟨_, _, _, h4, _⟩
            have := h4 k hk1 hlt
            simp only [lessB, decide_eq_false_iff_not] at hls2
            exact hls2 this
          have HR := Lib.hid hr
          clear hr
          go_wp2
          (refine wp_region_low (by kernel_rfl) (by kernel_rfl) ?_; (iterate 9 (apply quiet_want; (case hw => rfl); (case hval => (intro w1 hw1; have hcx := Low.cells hw1; simp only [Oper.quietAt]; go_simp; first | done | (first | (go_at_call 62; exact Low.calls hw1 (rless_any _ _ _ _ _))) | rfl | exact ⟨rfl, rfl⟩)); simp only [Act.put, List.setIfInBounds_toArray, List.set_cons_zero, List.set_cons_succ])); refine wpQuiet_nil ?_; intro w2 hw2)
          go_wp2
          go_ret
          exact ⟨ret_bool HR.out.symm, hB.trans (hw2.out.mono (by omega))⟩
        · have hls3 : Hid (cmpP (nth l 0) (nth l k) < 0) := by simp only [lessB, decide_eq_true_eq] at hls2; exact hls2
          go_wp2
          (refine wp_region_low (by kernel_rfl) (by kernel_rfl) ?_; (iterate 9 (apply quiet_want; (case hw => rfl); (case hval => (intro w1 hw1; have hcx := Low.cells hw1; simp only [Oper.quietAt]; go_simp; first | done | (first | (go_at_call 62; exact Low.calls hw1 (rless_any _ _ _ _ _))) | rfl | exact ⟨rfl, rfl⟩)); simp only [Act.put, List.setIfInBounds_toArray, List.set_cons_zero, List.set_cons_succ])); refine wpQuiet_nil ?_; intro w2 hw2)
          go_wp2
          go_roundw
          case rel =>
            refine ⟨k + 1, by omega, by omega, by simp, fun j hj1 hj => ?_, hB.trans (hw2.out.mono (by omega))⟩
            by_cases e : j = k
            · subst e; exact hls3.out
            · exact hls'.out j hj1 (by omega)
          case measure => simp [intOf]; omega
      · obtain rfl : k = l.length := by omega
        have hls' := Lib.hid hls
        clear hls
        go_wp2
        go_loopw [5] (fun i wq => ∃ i0 : Nat, i0 ≤ l.length ∧ i = .int .i64 i0 ∧ (2 < l.length → ∀ j, j < i0 → leftTo l j l.length) ∧ Below w.heap.size w wq) (fun i _ => l.length - (intOf i).toNat)
        case atStart => exact ⟨0, Nat.zero_le _, rfl, fun _ j h => by omega, hB⟩
        case round =>
          obtain ⟨i, hi, rfl, hlf, hBq⟩ := hrel
          have hlf' := Lib.hid hlf
          clear hlf
          by_cases hend : i = l.length ∨ l.length ≤ 2
          · have hr : refValid l = true := by
              simp only [refValid, decide_eq_true_eq]
              exact ⟨h1, h2, HPL.out, fun k a b => hls'.out k a b, fun h3 i' hi' k hk => hlf'.out h3 i' (by omega) k hk⟩
            have HR := Lib.hid hr
            clear hr
            rcases hend with rfl | h3
            · go_wp2
              go_ret
              exact ⟨ret_bool HR.out.symm, hBq⟩
            · by_cases hin : i < l.length
              · have d3 : decide (2 < (l.length : Int)) = false := by simp; omega
                have d4 : decide (2 < l.length) = false := by simp; omega
                go_wp2
                go_ret
                exact ⟨ret_bool HR.out.symm, hBq⟩
              · go_wp2
                go_ret
                exact ⟨ret_bool HR.out.symm, hBq⟩
          · have hin : i < l.length := by omega
            have h3 : 2 < l.length := by omega
            have d3 : decide (2 < (l.length : Int)) = true := by simp; omega
            obtain ⟨m, hm⟩ : ∃ m, (i + 1) % l.length = m := ⟨_, rfl⟩
            have hmlt : m < l.length := by rw [← hm]; exact Nat.mod_lt _ hn0
            have hw1 : IntKind.i64.wrap ((i : Int) + 1) = (i : Int) + 1 := IntWalk.i64_in _ (by omega)
            have hw2 : ((i : Int) + 1).tmod (l.length : Int) = (m : Int) := by
              have : ((i : Int) + 1).tmod (l.length : Int) = (((i + 1) % l.length : Nat) : Int) := by
                rw [Int.tmod_eq_emod_of_nonneg (by omega)]; rfl
              rw [this, hm]
            have HM := Lib.hid hm
            have pi := placeB_true (HPL.out i hin)
            have pm := placeB_true (HPL.out m hmlt)
            clear hm hend
            obtain ⟨wo, rfl⟩ : ∃ wo : World, wo = wr := ⟨_, rfl⟩
            go_wp2
            go_loopw [6] (fun kk wv => ∃ k : Nat, k ≤ l.length ∧ kk = .int .i64 k ∧ leftTo l i k ∧ Below w.heap.size w wv) (fun kk _ => l.length - (intOf kk).toNat)
            case atStart => exact ⟨0, Nat.zero_le _, rfl, fun j h => by omega, hBq⟩
            case round =>
              obtain ⟨k, hk, rfl, hlt0, hBv⟩ := hrel
              have hlt' := Lib.hid hlt0
              have hzv := hBv.size
              clear hlt0
              by_cases hkn : k < l.length
              · have c1 := Low.fact ((hBv.cell (p := ⟨b, o + k * 2, none⟩) hb).trans (hc'.out k hkn).1)
                have c2 := Low.fact ((hBv.cell (p := ⟨b, o + k * 2 + 1, none⟩) hb).trans (hc'.out k hkn).2)
                have c3 := Low.fact ((hBv.cell (p := ⟨b, o + i * 2, none⟩) hb).trans (hc'.out i hin).1)
                have c4 := Low.fact ((hBv.cell (p := ⟨b, o + i * 2 + 1, none⟩) hb).trans (hc'.out i hin).2)
                have c5 := Low.fact ((hBv.cell (p := ⟨b, o + m * 2, none⟩) hb).trans (hc'.out m hmlt).1)
                have c6 := Low.fact ((hBv.cell (p := ⟨b, o + m * 2 + 1, none⟩) hb).trans (hc'.out m hmlt).2)
                have pk := placeB_true (HPL.out k hkn)
                by_cases e1 : k = i
                · subst e1
                  go_wp2
                  (refine wp_region_low (by kernel_rfl) (by kernel_rfl) ?_; (iterate 4 (apply quiet_want; (case hw => rfl); (case hval => (intro w1 hw1; have hcx := Low.cells hw1; simp only [Oper.quietAt]; go_simp; first | done | (first | fail) | rfl | exact ⟨rfl, rfl⟩)); simp only [Act.put, List.setIfInBounds_toArray, List.set_cons_zero, List.set_cons_succ])); (iterate 6 (apply quiet_skip; (case hw => rfl); simp only [Act.put, List.setIfInBounds_toArray, List.set_cons_zero, List.set_cons_succ])); (iterate 2 (apply quiet_want; (case hw => rfl); (case hval => (intro w1 hw1; have hcx := Low.cells hw1; simp only [Oper.quietAt]; go_simp; first | done | (first | fail) | rfl | exact ⟨rfl, rfl⟩)); simp only [Act.put, List.setIfInBounds_toArray, List.set_cons_zero, List.set_cons_succ])); (iterate 17 (apply quiet_skip; (case hw => rfl); simp only [Act.put, List.setIfInBounds_toArray, List.set_cons_zero, List.set_cons_succ])); (iterate 1 (apply quiet_want; (case hw => rfl); (case hval => (intro w1 hw1; have hcx := Low.cells hw1; simp only [Oper.quietAt]; go_simp; first | done | (first | fail) | rfl | exact ⟨rfl, rfl⟩)); simp only [Act.put, List.setIfInBounds_toArray, List.set_cons_zero, List.set_cons_succ])); refine wpQuiet_nil ?_; intro w2 hw2)
                  go_wp2
                  go_roundw
                  case rel =>
                    refine ⟨k + 1, by omega, by simp, fun j hj => ?_, hBv.trans (hw2.out.mono (by omega))⟩
                    by_cases e : j = k
                    · subst e; intro h; exact absurd rfl h
                    · exact hlt'.out j (by omega)
                  case measure => simp [intOf]; omega
                · have q1 : ((k : Int) != (i : Int)) = true := by rw [bne_iff_ne]; omega
                  have q2 : (k != i) = true := by rw [bne_iff_ne]; omega
                  by_cases e2 : k = m
                  · subst e2
                    go_wp2
                    (refine wp_region_low (by kernel_rfl) (by kernel_rfl) ?_; (iterate 12 (apply quiet_want; (case hw => rfl); (case hval => (intro w1 hw1; have hcx := Low.cells hw1; simp only [Oper.quietAt]; go_simp; first | done | (first | fail) | rfl | exact ⟨rfl, rfl⟩)); simp only [Act.put, List.setIfInBounds_toArray, List.set_cons_zero, List.set_cons_succ])); (iterate 17 (apply quiet_skip; (case hw => rfl); simp only [Act.put, List.setIfInBounds_toArray, List.set_cons_zero, List.set_cons_succ])); (iterate 1 (apply quiet_want; (case hw => rfl); (case hval => (intro w1 hw1; have hcx := Low.cells hw1; simp only [Oper.quietAt]; go_simp; first | done | (first | fail) | rfl | exact ⟨rfl, rfl⟩)); simp only [Act.put, List.setIfInBounds_toArray, List.set_cons_zero, List.set_cons_succ])); refine wpQuiet_nil ?_; intro w2 hw2)
                    go_wp2
                    go_roundw
                    case rel =>
                      refine ⟨k + 1, by omega, by simp, fun j hj => ?_, hBv.trans (hw2.out.mono (by omega))⟩
                      by_cases e : j = k
                      · subst e; intro _ h; exact absurd HM.out.symm h
                      · exact hlt'.out j (by omega)
                    case measure => simp [intOf]; omega
                  · have q3 : ((k : Int) != (m : Int)) = true := by rw [bne_iff_ne]; omega
                    have q4 : (k != m) = true := by rw [bne_iff_ne]; omega
                    by_cases ht : turnV (nth l i).x (nth l i).y (nth l m).x (nth l m).y (nth l k).x (nth l k).y ≤ 0
                    · have dt : decide (turnV (nth l i).x (nth l i).y (nth l m).x (nth l m).y (nth l k).x (nth l k).y ≤ 0) = true := by simpa using ht
                      have hr : refValid l = false := by
                        simp only [refValid, decide_eq_false_iff_not]
                        rintro ⟨_, _, _, _, h5⟩
                        have := h5 h3 i hin k hkn e1 (by rw [HM.out]; exact e2)
                        rw [HM.out] at this
                        simp only [turnP] at this
                        omega
                      have HR := Lib.hid hr
                      clear hr ht
                      go_wp2
                      (refine wp_region_low (by kernel_rfl) (by kernel_rfl) ?_; (iterate 30 (apply quiet_want; (case hw => rfl); (case hval => (intro w1 hw1; have hcx := Low.cells hw1; simp only [Oper.quietAt]; go_simp; first | done | (first | (go_at_call 63; exact Low.calls hw1 (cross_any _ _ _ _ _ _ _ (by omega) (by omega) (by omega) (by omega) (by omega) (by omega) (by omega) (by omega) (by omega) (by omega) (by omega) (by omega)))) | rfl | exact ⟨rfl, rfl⟩)); simp only [Act.put, List.setIfInBounds_toArray, List.set_cons_zero, List.set_cons_succ])); refine wpQuiet_nil ?_; intro w2 hw2)
                      go_wp2
                      go_ret
                      exact ⟨ret_bool HR.out.symm, hBv.trans (hw2.out.mono (by omega))⟩
                    · have dt : decide (turnV (nth l i).x (nth l i).y (nth l m).x (nth l m).y (nth l k).x (nth l k).y ≤ 0) = false := by simpa using ht
                      have Ht := Lib.hid ht
                      clear ht
                      go_wp2
                      (refine wp_region_low (by kernel_rfl) (by kernel_rfl) ?_; (iterate 30 (apply quiet_want; (case hw => rfl); (case hval => (intro w1 hw1; have hcx := Low.cells hw1; simp only [Oper.quietAt]; go_simp; first | done | (first | (go_at_call 63; exact Low.calls hw1 (cross_any _ _ _ _ _ _ _ (by omega) (by omega) (by omega) (by omega) (by omega) (by omega) (by omega) (by omega) (by omega) (by omega) (by omega) (by omega)))) | rfl | exact ⟨rfl, rfl⟩)); simp only [Act.put, List.setIfInBounds_toArray, List.set_cons_zero, List.set_cons_succ])); refine wpQuiet_nil ?_; intro w2 hw2)
                      go_wp2
                      go_roundw
                      case rel =>
                        refine ⟨k + 1, by omega, by simp, fun j hj => ?_, hBv.trans (hw2.out.mono (by omega))⟩
                        by_cases e : j = k
                        · subst e; intro _ _; rw [HM.out]; have := Ht.out; simp only [turnP]; omega
                        · exact hlt'.out j (by omega)
                      case measure => simp [intOf]; omega
              · obtain rfl : k = l.length := by omega
                go_wp2
                go_roundw
                case rel =>
                  refine ⟨i + 1, by omega, by simp, fun h j hj => ?_, hBv⟩
                  by_cases e : j = i
                  · subst e; exact hlt'.out
                  · exact hlf'.out h j (by omega)
                case measure => simp [intOf]; omega

theorem rvalid_any (v : Value) (l : List Pt) (w : World) (hp : PtsAt w.heap.size w v l) :
    Calls Tryz.prog 33 #[v] w fun e w' => e = .returned (.bool (refValid l)) ∧ Below w.heap.size w w' := by
  by_cases h : 1 ≤ l.length ∧ l.length ≤ 64
  · exact rvalid_two v l w hp h.1 h.2
  · exact rvalid_size v l w hp (by omega)
end Go.Proofs.YtdpnhckbabjagaaGreat

namespace Go.Proofs.YtdpnhckbabjagaaGreat

theorem turnP_self (a c : Pt) : turnP a a c = 0 := by unfold turnP turnV; simp
theorem turnP_swap (a b d : Pt) : turnP a d b = -turnP a b d := by
  unfold turnP turnV
  rw [Int.mul_comm (d.x - a.x), Int.mul_comm (d.y - a.y)]
  omega
theorem cmpP_self (a : Pt) : cmpP a a = 0 := by simp [cmpP, cmpV, orI, cmpI]

theorem go_distinct {l : List Pt} (hl : ∀ k, 1 ≤ k → k < l.length → cmpP (nth l 0) (nth l k) < 0)
    (hg : ∀ i, i < l.length → ∀ k, k < l.length → nth l k ≠ nth l i → nth l k ≠ nth l ((i + 1) % l.length) → 0 < turnP (nth l i) (nth l ((i + 1) % l.length)) (nth l k)) :
    ∀ (t j k : Nat), l.length - k = t → j < k → k < l.length → nth l j ≠ nth l k := by
  have h0 : ∀ k, 1 ≤ k → k < l.length → nth l 0 ≠ nth l k := fun k h1 h2 e => by
    have := hl k h1 h2
    rw [← e, cmpP_self] at this
    omega
  intro t
  induction t using Nat.strongRecOn with
  | _ t ih =>
    intro j k ht hjk hk e
    have hj : 1 ≤ j := by
      rcases Nat.eq_zero_or_pos j with h | h
      · subst h; exact absurd e (h0 k hjk hk)
      · exact h
    have hj1 : (j + 1) % l.length = j + 1 := Nat.mod_eq_of_lt (by omega)
    have n0 : nth l 0 ≠ nth l j := h0 j hj (by omega)
    have n0k : nth l 0 ≠ nth l k := h0 k (by omega) hk
    -- the corners behind both differ
    have hne : nth l (j + 1) ≠ nth l ((k + 1) % l.length) := by
      by_cases hk1 : k + 1 = l.length
      · rw [hk1, Nat.mod_self]
        exact fun h => h0 (j + 1) (by omega) (by omega) h.symm
      · rw [Nat.mod_eq_of_lt (by omega)]
        exact ih (l.length - (k + 1)) (by omega) (j + 1) (k + 1) rfl (by omega) (by omega)
    have hAB : nth l j ≠ nth l (j + 1) := fun h => by
      have := hg j (by omega) 0 (by omega) n0 (by rw [hj1, ← h]; exact n0)
      rw [hj1, ← h, turnP_self] at this
      omega
    have hAD : nth l k ≠ nth l ((k + 1) % l.length) := fun h => by
      have := hg k hk 0 (by omega) n0k (by rw [← h]; exact n0k)
      rw [← h, turnP_self] at this
      omega
    have hm : (k + 1) % l.length < l.length := Nat.mod_lt _ (by omega)
    have t1 := hg j (by omega) ((k + 1) % l.length) hm (by rw [e]; exact Ne.symm hAD) (by rw [hj1]; exact Ne.symm hne)
    have t2 := hg k hk (j + 1) (by omega) (by rw [← e]; exact Ne.symm hAB) hne
    rw [hj1] at t1
    rw [← e, turnP_swap] at t2
    omega

theorem go_iff_ref (l : List Pt) : GoValid l ↔ RefValid l := by
  constructor
  · rintro ⟨h1, h2, h3, h4⟩
    have hl : ∀ k, 1 ≤ k → k < l.length → cmpP (nth l 0) (nth l k) < 0 := fun k a b => (h3 k b).2 (by omega)
    refine ⟨h1, h2, fun k hk => (h3 k hk).1, hl, fun hn i hi k hk hki hkm => ?_⟩
    have hg := h4 (by omega)
    have hd := go_distinct hl hg
    have ne : ∀ a b, a < l.length → b < l.length → a ≠ b → nth l a ≠ nth l b := fun a b ha hb hab => by
      rcases Nat.lt_or_gt_of_ne hab with h | h
      · exact hd _ a b rfl h hb
      · exact fun e => hd _ b a rfl h ha e.symm
    exact hg i hi k hk (ne k i hk hi hki) (ne k _ hk (Nat.mod_lt _ (by omega)) hkm)
  · rintro ⟨h1, h2, h3, h4, h5⟩
    refine ⟨h1, h2, fun k hk => ⟨h3 k hk, fun h => h4 k h hk⟩, fun hn i hi k hk a b => ?_⟩
    exact h5 (by omega) i hi k hk (fun e => a (by rw [e]; rfl)) (fun e => b (by rw [e]; rfl))

theorem go_eq_ref (l : List Pt) : goValid l = refValid l := by
  rw [Bool.eq_iff_iff]
  simp only [goValid, refValid, decide_eq_true_eq]
  exact go_iff_ref l
end Go.Proofs.YtdpnhckbabjagaaGreat

namespace Go.Proofs.YtdpnhckbabjagaaGreat
open Go.RowKit
attribute [local irreducible] wpQuiet

/-- the least, the greatest number that a function makes of the first k corners (and the first one) -/
def loTo (f : Pt → Int) (l : List Pt) : Nat → Int
  | 0 => f (nth l 0)
  | k + 1 => if f (nth l k) < loTo f l k then f (nth l k) else loTo f l k
def hiTo (f : Pt → Int) (l : List Pt) : Nat → Int
  | 0 => f (nth l 0)
  | k + 1 => if hiTo f l k < f (nth l k) then f (nth l k) else hiTo f l k
def bxF1 (p : Pt) : Int := p.x
def bxF2 (p : Pt) : Int := p.y



end Go.Proofs.YtdpnhckbabjagaaGreat

namespace Go.Proofs.YtdpnhckbabjagaaGreat
open Go.RowKit
attribute [local irreducible] wpQuiet



/-- two numbers have different signs -/
def crossB (s t : Int) : Bool := decide (s < 0 ∧ 0 < t ∨ 0 < s ∧ t < 0)

end Go.Proofs.YtdpnhckbabjagaaGreat

namespace Go.Proofs.YtdpnhckbabjagaaGreat
open Go.RowKit Go.Shelf

section
variable {F : Fence} {n : Nat} {P : Program}
/-- the slots T of the loop's function need not be written: up says what a round's assignments make of them, Hx what they lay (at B) -/
theorem wpIn_rangeK {α : Type} {g : Operand} {ps : Array Tmp} {assign body : Code} {Q : Exit → Act → World → Prop} {T : Array Value} {w : World}
    (hro : F.round = none) (h1 : 1 ≤ n) {gf : Nat} {lb : Array Value} (hg : ({ tmps := T, defers := [] } : Act).eval g = .func (.func gf) #[] lb) (hFg : F.fn gf) (eg : ∀ args w, (callFunc gf args).run P w = .ok (.enter gf args) w)
    {encs : α → Array Value} {Kp : World → World → Prop} {S Sp : List α → Prop} {N : Nat} {w0 : World} (hseq : SeqStopsK F (n - 1) P gf lb encs Kp S Sp N w0)
    (hKt : ∀ {A B C : World}, Kp A B → Kp B C → Kp A C) (hKb : ∀ (W : World) (l : Nat) (o o' : Obj), w.heap.size ≤ l → W.heap[l]? = some o → o.isCells = false → o.isWalk = false → Kp W (W.putObj l o')) (hb0 : Below w0.heap.size w0 w) (hps : ∀ x, (encs x).size = ps.size)
    (I : List α → World → Prop) (Ix : Code → List α → World → Prop) (hI : OwnFrom w.heap.size I) (hIx : ∀ c, OwnFrom w.heap.size (Ix c)) (h0 : I [] w)
    (up : Array Value → α → Nat → Array Value) (Hx : α → Nat → World → Prop) (hHx : ∀ x B, OwnFrom w.heap.size (fun (_ : Unit) W => Hx x B W))
    (hassign : ∀ (l : Nat) (pre : List α) (x : α) (W : World) (K : Act → World → Prop), I pre W → (∀ B W', KeepsFrom w.heap.size W W' → Kp W W' → I pre W' → Hx x B W' → K { tmps := up T x B, defers := [] } W') →
      assign.wpIn (F.inRound l) (n - 1 - 1) P (Exit.then K (fun _ _ _ => False)) { tmps := (ps.zip (encs x)).foldl (fun t (p, v) => t.setIfInBounds p v) T, defers := [] } W)
    (hbody : ∀ (l : Nat) (pre : List α) (x : α) (B : Nat) (W : World), w.heap.size ≤ l → (∃ r, W.heap[l]? = some (.loop r)) → I pre W → Hx x B W → pre.length < N → body.wpIn (F.inRound l) (n - 1 - 1) P (ownPostG w.heap.size Kp I Ix (pre ++ [x]) W) { tmps := up T x B, defers := [] } W)
    (hdone : ∀ (D : Nat) (xs : List α) (W : World), w.heap.size ≤ D → S xs → I xs W → W.heap[D]? = some (.deferred (some [])) → Q .normal { tmps := T, defers := [{ target := .collected D, args := #[] }] } W)
    (hstop : ∀ (D : Nat) (c : Code) (pre : List α) (W : World), w.heap.size ≤ D → Sp pre → Ix c pre W → W.heap[D]? = some (.deferred (some [])) → c.wpIn F n P Q { tmps := T, defers := [{ target := .collected D, args := #[] }] } W) :
    (Code.rangeFunc g ps assign body).wpIn F n P Q { tmps := T, defers := [] } w := by
  refine wpIn_rangeFunc_ownH hro h1 hg hFg eg hseq hKt hKb hb0 hps I Ix hI hIx h0 (fun x a' W => ∃ B, Hx x B W ∧ a' = { tmps := up T x B, defers := [] })
    (fun x a' _ X Y row hs hg hr => by obtain ⟨B, h, e⟩ := hs; exact ⟨B, hHx x B () X Y row h hg hr, e⟩) ?_ ?_ hdone hstop
  · intro l pre x W K hi hK
    exact hassign l pre x W K hi fun B W' k1 k2 k3 k4 => hK _ W' k1 k2 k3 ⟨B, k4, rfl⟩
  · rintro l pre x a' W hl hr hi ⟨B, hb, rfl⟩ hlt
    exact hbody l pre x B W hl hr hi hb hlt
end
/-- a block laid in a round stays -/
theorem ownFrom_has (n B : Nat) (cs : Array Value) (t : TypeId) : OwnFrom n (fun (_ : Unit) W => Has W B cs t) := fun _ _ _ _ hs hg hr => has_kept hs hg (fun r e => (hr r e).2)
end Go.Proofs.YtdpnhckbabjagaaGreat

namespace Go.Proofs.YtdpnhckbabjagaaGreat
open Go.RowKit
section
variable {w X : World} {c1 c2 c3 c4 c5 : Array Value} {t1 t2 t3 t4 t5 : TypeId}
theorem box1 (h : w.alloc (.cells c1 t1) = X) : Has X w.heap.size c1 t1 ∧ Below w.heap.size w X ∧ X.heap.size = w.heap.size + 1 := by
  subst h
  exact ⟨Has.new _ _ _, (Below.refl _ _).alloc (Nat.le_refl _) _, by simp⟩
theorem box2 (h : (w.alloc (.cells c1 t1)).alloc (.cells c2 t2) = X) : Has X w.heap.size c1 t1 ∧ Has X (w.heap.size + 1) c2 t2 ∧ Below w.heap.size w X ∧ X.heap.size = w.heap.size + 2 := by
  obtain ⟨a, b, z⟩ := box1 (w := w) (c1 := c1) (t1 := t1) rfl
  obtain ⟨a', b', z'⟩ := box1 h
  rw [z] at a' b' z'
  exact ⟨a.below b' (by omega), a', b.trans (b'.mono (by omega)), z'⟩
theorem box3 (h : ((w.alloc (.cells c1 t1)).alloc (.cells c2 t2)).alloc (.cells c3 t3) = X) : Has X w.heap.size c1 t1 ∧ Has X (w.heap.size + 1) c2 t2 ∧ Has X (w.heap.size + 1 + 1) c3 t3 ∧ Below w.heap.size w X ∧ X.heap.size = w.heap.size + 3 := by
  obtain ⟨a, a2, b, z⟩ := box2 (w := w) (c1 := c1) (t1 := t1) (c2 := c2) (t2 := t2) rfl
  obtain ⟨a', b', z'⟩ := box1 h
  rw [z] at a' b' z'
  exact ⟨a.below b' (by omega), a2.below b' (by omega), a', b.trans (b'.mono (by omega)), z'⟩
end
end Go.Proofs.YtdpnhckbabjagaaGreat
