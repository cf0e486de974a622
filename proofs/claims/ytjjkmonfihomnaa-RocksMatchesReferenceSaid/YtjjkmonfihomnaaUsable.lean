/- landfallref33's Few, polygons and Rocks; the laws' usable. -/
import Derived.Test.YtjjkmonfihomnaaRocksLaw
import Derived.Test.YtjjkmonfihomnaaRef3
import Derived.Test.YtjjkmonfihomnaaConcat
namespace Go.Proofs.Ytjjkmonfihomnaa
open Go.RowKit
attribute [local irreducible] wpQuiet

/-- as many corners as Few looks at -/
def few33B (ls : List (List Pt)) : Bool := decide (ls.length ≤ 12) && decide (sumTo ls ls.length ≤ 150)
theorem sumTo_more {ls : List (List Pt)} : ∀ k, sumTo ls (k + 1) = sumTo ls k + (rk ls k).length := fun _ => rfl
theorem few33_any (vr : Value) (ls : List (List Pt)) (w : World) (hr : RocksAt w.heap.size w vr ls) :
    Calls Try.prog 14 #[vr] w fun e w' => e = .returned (.bool (few33B ls)) ∧ Below w.heap.size w w' := by
  obtain ⟨hll, ar, capr, rfl, hrc⟩ := hr
  have HRC := Lib.hid hrc
  have hn : ∀ j, j < ls.length → (rk ls j).length ≤ 70368744177663 := fun j hj => by
    rcases HRC.out with h | ⟨b, o, _, _, h⟩
    · rw [h] at hj; simp at hj
    · obtain ⟨u, _, hp⟩ := h j hj; exact hp.1
  have hsum : ∀ k, k ≤ ls.length → k ≤ 13 → sumTo ls k ≤ k * 70368744177663 := fun k => by
    induction k with
    | zero => intro _ _; simp [sumTo]
    | succ k ih => intro h1 h2; have a := ih (by omega) (by omega); have b := hn k (by omega); rw [sumTo_more]; omega
  have HS := Lib.hid hsum
  have HN := Lib.hid hn
  clear hrc hn hsum
  go_enter Try.func14, Try.ntmps14
  go_wp2
  go_loopw [3, 4] (fun s i wr => ∃ k : Nat, k ≤ ls.length ∧ k ≤ 13 ∧ i = .int .i64 (k : Int) ∧ s = .int .i64 (sumTo ls k : Int) ∧ Below w.heap.size w wr) (fun _ i _ => ls.length - (intOf i).toNat)
  case atStart => exact ⟨0, by omega, by omega, rfl, rfl, Below.refl _ _⟩
  case round =>
    obtain ⟨k, hk, hk13, rfl, rfl, hB⟩ := hrel
    by_cases hlt : k < ls.length
    · have dk : decide ((k : Int) < (ls.length : Int)) = true := by simp; omega
      by_cases h12 : k ≤ 12
      · have d12 : decide ((k : Int) ≤ 12) = true := by simp; omega
        obtain ⟨b, o, rfl, hb, hcc⟩ : ∃ b o, ar = some ⟨b, o, none⟩ ∧ b < w.heap.size ∧ ∀ j, j < ls.length → ∃ u, w.cell? ⟨b, o + j, none⟩ = some u ∧ PtsAt w.heap.size w u (rk ls j) := by
          rcases HRC.out with h | h
          · rw [h] at hlt; simp at hlt
          · exact h
        obtain ⟨u, hu, hpu⟩ := hcc k hlt
        have e0 := (hB.cell (p := ⟨b, o + k, none⟩) hb).trans hu
        obtain ⟨au, cu, rfl⟩ := hpu.len
        have b1 := HS.out k hk hk13
        have b2 := HN.out k hlt
        have hst : Hid (sumTo ls (k + 1) = sumTo ls k + (rk ls k).length) := rfl
        have kl : (k : Int) < ls.length := by omega
        have k0 : (0 : Int) ≤ k := by omega
        have m1 : IntKind.i64.wrap ((sumTo ls k : Int) + ((rk ls k).length : Int)) = (sumTo ls k : Int) + ((rk ls k).length : Int) := IntWalk.i64_in _ (by omega)
        have HB := Lib.hid hB
        clear hcc hu hpu hB
        go_wp2
        go_roundw
        case rel => exact ⟨k + 1, by omega, by omega, by go_num, by rw [hst.out]; go_num, HB.out⟩
        case measure => simp [intOf]; omega
      · obtain rfl : k = 13 := by omega
        have hr : few33B ls = false := by unfold few33B; rw [decide_eq_false (by omega)]; rfl
        have d0 : decide ((ls.length : Int) ≤ 12) = false := by simp; omega
        have d12 : decide (((13 : Nat) : Int) ≤ 12) = false := by simp
        generalize sumTo ls 13 = S at *
        go_wp2
        exact bodyPost_ret (results_tmp rfl _ _ _) rfl ⟨by rw [hr]; rfl, hB⟩
    · obtain rfl : k = ls.length := by omega
      have dk : decide ((ls.length : Int) < (ls.length : Int)) = false := by simp
      obtain ⟨S, hS⟩ : ∃ S, sumTo ls ls.length = S := ⟨_, rfl⟩
      rw [hS]
      by_cases h12 : ls.length ≤ 12
      · have d0 : decide ((ls.length : Int) ≤ 12) = true := by simp; omega
        have d12 := d0
        have hr : few33B ls = decide ((S : Int) ≤ 150) := by
          unfold few33B
          rw [hS, decide_eq_true h12, Bool.true_and, Bool.eq_iff_iff]
          simp only [decide_eq_true_eq]; omega
        have HR := Lib.hid hr
        have HB := Lib.hid hB
        clear hr hS hB
        go_wp2
        exact bodyPost_ret (results_tmp rfl _ _ _) rfl ⟨by rw [HR.out]; rfl, HB.out⟩
      · have d0 : decide ((ls.length : Int) ≤ 12) = false := by simp; omega
        have hr : few33B ls = false := by unfold few33B; rw [decide_eq_false h12]; rfl
        have HB := Lib.hid hB
        clear hS hB
        go_wp2
        exact bodyPost_ret (results_tmp rfl _ _ _) rfl ⟨by rw [hr]; rfl, HB.out⟩

open Classical in
/-- all are polygons -/
noncomputable def polysB (ls : List (List Pt)) : Bool := decide (∀ j, j < ls.length → goValid (rk ls j) = true)
theorem polysB_iff {ls : List (List Pt)} : polysB ls = true ↔ ∀ j, j < ls.length → goValid (rk ls j) = true := by unfold polysB; rw [decide_eq_true_eq]
theorem okRocks_eq (c : List Pt) (ls : List (List Pt)) : okRocks c ls = (goValid c && polysB ls) := rfl
theorem polygons_any (vr : Value) (ls : List (List Pt)) (w : World) (hr : RocksAt w.heap.size w vr ls) :
    Calls Try.prog 36 #[vr] w fun e w' => e = .returned (.bool (polysB ls)) ∧ Below w.heap.size w w' := by
  obtain ⟨hll, ar, capr, rfl, hrc⟩ := hr
  have HRC := Lib.hid hrc
  clear hrc
  go_enter Try.func36, Try.ntmps36
  go_wp2
  go_loopw [3] (fun i wr => ∃ k : Nat, k ≤ ls.length ∧ i = .int .i64 (k : Int) ∧ (∀ j, j < k → goValid (rk ls j) = true) ∧ Below w.heap.size w wr) (fun i _ => ls.length - (intOf i).toNat)
  case atStart => exact ⟨0, by omega, rfl, fun j h => by omega, Below.refl _ _⟩
  case round =>
    obtain ⟨k, hk, rfl, hall, hB⟩ := hrel
    have HALL := Lib.hid hall
    clear hall
    by_cases hlt : k < ls.length
    · have dk : decide ((k : Int) < (ls.length : Int)) = true := by simp; omega
      obtain ⟨b, o, rfl, hb, hcc⟩ : ∃ b o, ar = some ⟨b, o, none⟩ ∧ b < w.heap.size ∧ ∀ j, j < ls.length → ∃ u, w.cell? ⟨b, o + j, none⟩ = some u ∧ PtsAt w.heap.size w u (rk ls j) := by
        rcases HRC.out with h | h
        · rw [h] at hlt; simp at hlt
        · exact h
      obtain ⟨u, hu, hpu⟩ := hcc k hlt
      have e0 := (hB.cell (p := ⟨b, o + k, none⟩) hb).trans hu
      have hv := rvalid_any u (rk ls k) wr ((hpu.below hB).mono hB.size)
      rw [← go_eq_ref] at hv
      have kl : (k : Int) < ls.length := by omega
      have k0 : (0 : Int) ≤ k := by omega
      have hzr := hB.size
      have HB := Lib.hid hB
      clear hcc hu hpu hB
      cases hg : goValid (rk ls k)
      · rw [hg] at hv
        have hv' := Lib.hid hv
        have hr : polysB ls = false := by
          unfold polysB
          exact decide_eq_false fun h => by rw [h k hlt] at hg; cases hg
        have HR := Lib.hid hr
        clear hg hv hr
        go_wp2_with fail
        refine hv'.out.mono ?_
        rintro e w3 ⟨rfl, hb3⟩
        have B3 := Lib.hid (HB.out.trans (hb3.mono hzr))
        clear hb3
        go_wp2
        exact bodyPost_ret (results_tmp rfl _ _ _) rfl ⟨by rw [HR.out]; rfl, B3.out⟩
      · rw [hg] at hv
        have hv' := Lib.hid hv
        have HALL2 : Hid (∀ j, j < k + 1 → goValid (rk ls j) = true) := fun j hj => by
          by_cases e : j = k
          · rw [e]; exact hg
          · exact HALL.out j (by omega)
        clear hg hv
        go_wp2_with fail
        refine hv'.out.mono ?_
        rintro e w3 ⟨rfl, hb3⟩
        have B3 := Lib.hid (HB.out.trans (hb3.mono hzr))
        clear hb3
        go_wp2
        go_roundw
        case rel => exact ⟨k + 1, by omega, by go_num, HALL2.out, B3.out⟩
        case measure => simp [intOf]; omega
    · obtain rfl : k = ls.length := by omega
      have dk : decide ((ls.length : Int) < (ls.length : Int)) = false := by simp
      have hr : polysB ls = true := polysB_iff.2 HALL.out
      have HR := Lib.hid hr
      have HB := Lib.hid hB
      clear hr hB
      go_wp2
      exact bodyPost_ret (results_tmp rfl _ _ _) rfl ⟨by rw [HR.out]; rfl, HB.out⟩
theorem rrocks_any (vr : Value) (ls : List (List Pt)) (w : World) (hr : RocksAt w.heap.size w vr ls) :
    Calls Try.prog 41 #[vr] w fun e w' => e = .returned (.bool (decide (ls.length ≤ 100) && polysB ls)) ∧ Below w.heap.size w w' := by
  have hp := Lib.hid (polygons_any vr ls w hr)
  obtain ⟨hll, ar, capr, rfl, hrc⟩ := hr
  clear hrc
  by_cases h : ls.length ≤ 100
  · have d1 : decide ((ls.length : Int) ≤ 100) = true := by simp; omega
    rw [decide_eq_true h]
    go_enter Try.func41, Try.ntmps41
    go_wp2_with fail
    refine hp.out.mono ?_
    rintro e w1 ⟨rfl, hb1⟩
    have B1 := Lib.hid hb1
    clear hb1
    go_wp2
    exact bodyPost_ret (results_tmp rfl _ _ _) rfl ⟨rfl, B1.out⟩
  · have d1 : decide ((ls.length : Int) ≤ 100) = false := by simp; omega
    rw [decide_eq_false h]
    go_enter Try.func41, Try.ntmps41
    go_wp2
    exact bodyPost_ret (results_tmp rfl _ _ _) rfl ⟨rfl, Below.refl _ _⟩
/-- right, and few -/
noncomputable def usableB (c : List Pt) (ls : List (List Pt)) : Bool := few33B ls && okRocks c ls
theorem usableB_iff {c : List Pt} {ls : List (List Pt)} : usableB c ls = true ↔ ls.length ≤ 12 ∧ sumTo ls ls.length ≤ 150 ∧ goValid c = true ∧ ∀ j, j < ls.length → goValid (rk ls j) = true := by
  unfold usableB few33B
  rw [okRocks_eq]
  simp only [Bool.and_eq_true, decide_eq_true_eq, polysB_iff]
  exact ⟨fun ⟨⟨a, b⟩, c, d⟩ => ⟨a, b, c, d⟩, fun ⟨a, b, c, d⟩ => ⟨⟨a, b⟩, c, d⟩⟩
theorem usable_any (vc vr : Value) (c : List Pt) (ls : List (List Pt)) (w : World) (hc : PtsAt w.heap.size w vc c) (hr : RocksAt w.heap.size w vr ls) :
    Calls Try.prog 19 #[vc, vr] w fun e w' => e = .returned (.bool (usableB c ls)) ∧ Below w.heap.size w w' := by
  have f1 := Lib.hid (few33_any vr ls w hr)
  have f2 := Lib.hid (fun w1 (B : Below w.heap.size w w1) => rvalid_any vc c w1 ((hc.below B).mono B.size))
  have f3 := Lib.hid (fun w1 (B : Below w.heap.size w w1) => rrocks_any vr ls w1 ((hr.below B).mono B.size))
  rw [← go_eq_ref] at f2
  obtain ⟨ac, capc, rfl⟩ := hc.len
  obtain ⟨hll, ar, capr, rfl, hrc⟩ := hr
  clear hrc hc
  cases h1 : few33B ls
  · have hr : usableB c ls = false := by unfold usableB; rw [h1]; rfl
    rw [h1] at f1
    clear h1
    rw [hr]
    go_enter Try.func19, Try.ntmps19
    go_wp2_with fail
    refine f1.out.mono ?_
    rintro e w1 ⟨rfl, hb1⟩
    have B1 := Lib.hid hb1
    clear hb1
    go_wp2
    exact bodyPost_ret (results_tmp rfl _ _ _) rfl ⟨rfl, B1.out⟩
  have h100 : ls.length ≤ 100 := by
    unfold few33B at h1
    simp only [Bool.and_eq_true, decide_eq_true_eq] at h1
    omega
  rw [decide_eq_true h100, Bool.true_and] at f3
  rw [h1] at f1
  cases h2 : goValid c
  · have hr : usableB c ls = false := by unfold usableB; rw [okRocks_eq, h2, h1]; rfl
    rw [h2] at f2
    clear h1 h2 h100
    rw [hr]
    go_enter Try.func19, Try.ntmps19
    go_wp2_with fail
    refine f1.out.mono ?_
    rintro e w1 ⟨rfl, hb1⟩
    have B1 := Lib.hid hb1
    clear hb1
    go_wp2_with fail
    refine (f2.out _ B1.out).mono ?_
    rintro e w2 ⟨rfl, hb2⟩
    have B2 := Lib.hid (B1.out.trans (hb2.mono B1.out.size))
    clear hb2
    go_wp2
    exact bodyPost_ret (results_tmp rfl _ _ _) rfl ⟨rfl, B2.out⟩
  · have hr : usableB c ls = polysB ls := by unfold usableB; rw [okRocks_eq, h2, h1]; rfl
    rw [h2] at f2
    clear h1 h2 h100
    rw [hr]
    go_enter Try.func19, Try.ntmps19
    go_wp2_with fail
    refine f1.out.mono ?_
    rintro e w1 ⟨rfl, hb1⟩
    have B1 := Lib.hid hb1
    clear hb1
    go_wp2_with fail
    refine (f2.out _ B1.out).mono ?_
    rintro e w2 ⟨rfl, hb2⟩
    have B2 := Lib.hid (B1.out.trans (hb2.mono B1.out.size))
    clear hb2
    go_wp2_with fail
    refine (f3.out _ B2.out).mono ?_
    rintro e w3 ⟨rfl, hb3⟩
    have B3 := Lib.hid (B2.out.trans (hb3.mono B2.out.size))
    clear hb3
    go_wp2
    exact bodyPost_ret (results_tmp rfl _ _ _) rfl ⟨rfl, B3.out⟩
end Go.Proofs.Ytjjkmonfihomnaa
