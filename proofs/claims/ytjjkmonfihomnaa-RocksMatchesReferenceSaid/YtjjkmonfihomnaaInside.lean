/- landfallref03's between and Inside. -/
import Derived.Test.YtjjkmonfihomnaaTouch
import Derived.Test.YtjjkmonfihomnaaRef3
import Derived.Test.YtjjkmonfihomnaaCalm
namespace Go.Proofs.Ytjjkmonfihomnaa
open Go.RowKit
attribute [local irreducible] wpQuiet

def minI (a b : Int) : Int := if b < a then b else a
def maxI (a b : Int) : Int := if a < b then b else a
def btwB (ax ay bx by' px py : Int) : Bool := decide (minI ax bx ≤ px) && decide (px ≤ maxI ax bx) && decide (minI ay by' ≤ py) && decide (py ≤ maxI ay by')
set_option linter.unusedSimpArgs false in
theorem rbtw_any (ax ay bx by' px py : Int) (w : World) :
    Calls Try.prog 114 #[.agg #[.int .i64 ax, .int .i64 ay], .agg #[.int .i64 bx, .int .i64 by'], .agg #[.int .i64 px, .int .i64 py]] w fun e w' => e = .returned (.bool (btwB ax ay bx by' px py)) ∧ Below w.heap.size w w' := by
  unfold btwB minI maxI
  cases d1 : decide ((if bx < ax then bx else ax) ≤ px)
  · go_enter Try.func114, Try.ntmps114
    go_wp2
    all_goals (go_ret; exact ⟨rfl, by repeat (first | exact Below.refl _ _ | assumption | apply Below.drew | refine Below.setCell ?_ (by first | omega | (simp; done) | (simp; omega)) _ | refine Below.alloc ?_ (by first | omega | (simp; done) | (simp; omega)) _ | refine Below.call (by assumption) ?_ (by first | omega | (simp; done) | (simp; omega)))⟩)
  cases d2 : decide (px ≤ (if ax < bx then bx else ax))
  · go_enter Try.func114, Try.ntmps114
    go_wp2
    all_goals (go_ret; exact ⟨rfl, by repeat (first | exact Below.refl _ _ | assumption | apply Below.drew | refine Below.setCell ?_ (by first | omega | (simp; done) | (simp; omega)) _ | refine Below.alloc ?_ (by first | omega | (simp; done) | (simp; omega)) _ | refine Below.call (by assumption) ?_ (by first | omega | (simp; done) | (simp; omega)))⟩)
  cases d3 : decide ((if by' < ay then by' else ay) ≤ py)
  · go_enter Try.func114, Try.ntmps114
    go_wp2
    all_goals (go_ret; exact ⟨rfl, by repeat (first | exact Below.refl _ _ | assumption | apply Below.drew | refine Below.setCell ?_ (by first | omega | (simp; done) | (simp; omega)) _ | refine Below.alloc ?_ (by first | omega | (simp; done) | (simp; omega)) _ | refine Below.call (by assumption) ?_ (by first | omega | (simp; done) | (simp; omega)))⟩)
  cases d4 : decide (py ≤ (if ay < by' then by' else ay))
  · go_enter Try.func114, Try.ntmps114
    go_wp2
    all_goals (go_ret; exact ⟨rfl, by repeat (first | exact Below.refl _ _ | assumption | apply Below.drew | refine Below.setCell ?_ (by first | omega | (simp; done) | (simp; omega)) _ | refine Below.alloc ?_ (by first | omega | (simp; done) | (simp; omega)) _ | refine Below.call (by assumption) ?_ (by first | omega | (simp; done) | (simp; omega)))⟩)
  · go_enter Try.func114, Try.ntmps114
    go_wp2
    all_goals (go_ret; exact ⟨rfl, by repeat (first | exact Below.refl _ _ | assumption | apply Below.drew | refine Below.setCell ?_ (by first | omega | (simp; done) | (simp; omega)) _ | refine Below.alloc ?_ (by first | omega | (simp; done) | (simp; omega)) _ | refine Below.call (by assumption) ?_ (by first | omega | (simp; done) | (simp; omega)))⟩)

theorem loTo_pair (f : Pt → Int) {l : List Pt} (h : l.length = 2) : loTo f l l.length = minI (f (nth l 0)) (f (nth l 1)) := by
  rw [h]; simp only [loTo, minI, Int.lt_irrefl, if_false]
theorem hiTo_pair (f : Pt → Int) {l : List Pt} (h : l.length = 2) : hiTo f l l.length = maxI (f (nth l 0)) (f (nth l 1)) := by
  rw [h]; simp only [hiTo, maxI, Int.lt_irrefl, if_false]
theorem inside_two {l : List Pt} (h : l.length = 2) (x : Pt) : inside l x = (decide (turnV (nth l 0).x (nth l 0).y (nth l 1).x (nth l 1).y x.x x.y = 0) && btwB (nth l 0).x (nth l 0).y (nth l 1).x (nth l 1).y x.x x.y) := by
  have e1 : (boxL l).x = minI (nth l 0).x (nth l 1).x := loTo_pair bxF1 h
  have e2 : (boxL l).y = minI (nth l 0).y (nth l 1).y := loTo_pair bxF2 h
  have e3 : (boxH l).x = maxI (nth l 0).x (nth l 1).x := hiTo_pair bxF1 h
  have e4 : (boxH l).y = maxI (nth l 0).y (nth l 1).y := hiTo_pair bxF2 h
  unfold inside btwB
  rw [if_pos (by omega), h, e1, e2, e3, e4, Bool.eq_iff_iff]
  simp only [Bool.and_eq_true, decide_eq_true_eq]
  exact ⟨fun ⟨a, b, c, d, e⟩ => ⟨a, ⟨⟨b, c⟩, d⟩, e⟩, fun ⟨a, ⟨⟨b, c⟩, d⟩, e⟩ => ⟨a, b, c, d, e⟩⟩
theorem inside_one {l : List Pt} (h : l.length = 1) (x : Pt) : inside l x = true ↔ (nth l 0).x = x.x ∧ (nth l 0).y = x.y := by
  have e1 : (boxL l).x = (nth l 0).x := by show loTo bxF1 l l.length = _; rw [h]; simp [loTo, bxF1]
  have e2 : (boxL l).y = (nth l 0).y := by show loTo bxF2 l l.length = _; rw [h]; simp [loTo, bxF2]
  have e3 : (boxH l).x = (nth l 0).x := by show hiTo bxF1 l l.length = _; rw [h]; simp [hiTo, bxF1]
  have e4 : (boxH l).y = (nth l 0).y := by show hiTo bxF2 l l.length = _; rw [h]; simp [hiTo, bxF2]
  unfold inside
  rw [if_pos (by omega), h, e1, e2, e3, e4, decide_eq_true_eq]
  constructor
  · rintro ⟨_, a, b, c, d⟩; omega
  · rintro ⟨a, b⟩; exact ⟨turnP_self _ _, by omega, by omega, by omega, by omega⟩

set_option linter.unusedSimpArgs false in
set_option maxRecDepth 8000 in
set_option maxHeartbeats 2000000 in
theorem rinside_any (v : Value) (l : List Pt) (x : Pt) (w : World) (hp : PtsAt w.heap.size w v l) (hl : GoValid l) (hx : placeP x = true) :
    Calls Try.prog 77 #[v, .agg #[.int .i64 x.x, .int .i64 x.y]] w fun e w' => e = .returned (.bool (inside l x)) ∧ Below w.heap.size w w' := by
  have hin := hl.1
  have h64 := hl.2.1
  have hpl : ∀ k, k < l.length → placeP (nth l k) = true := fun k hk => (hl.2.2.1 k hk).1
  obtain ⟨hll, a, cap, rfl, hc⟩ := hp
  obtain ⟨b, o, rfl, hb, hc⟩ : ∃ b o, a = some ⟨b, o, none⟩ ∧ b < w.heap.size ∧ ∀ j, j < l.length → w.cell? ⟨b, o + j * 2, none⟩ = some (.int .i64 (nth l j).x) ∧ w.cell? ⟨b, o + j * 2 + 1, none⟩ = some (.int .i64 (nth l j).y) := by
    rcases hc with rfl | h
    · simp at hin
    · exact h
  have HL := Lib.hid hl
  have HPL := Lib.hid hpl
  have px := placeB_true hx
  obtain ⟨x, y⟩ := x
  simp only at px
  have hA := (Below.refl w.heap.size w).alloc (Nat.le_refl _) (.cells #[.int .i64 x, .int .i64 y] 31)
  have hN := Has.new w #[.int .i64 x, .int .i64 y] 31
  have n0 := Low.fact (hN.cell (i := 0) rfl)
  have n1 := Low.fact (hN.cell (i := 1) rfl)
  have cc := fun j hj => And.intro ((hA.cell (p := ⟨b, o + j * 2, none⟩) hb).trans (hc j hj).1) ((hA.cell (p := ⟨b, o + j * 2 + 1, none⟩) hb).trans (hc j hj).2)
  have g1 := Low.fact (cc 0 (by omega)).1
  have g2 := Low.fact (cc 0 (by omega)).2
  simp only [Nat.zero_mul, Nat.add_zero] at g1 g2
  have p0 := placeB_true (HPL.out 0 (by omega))
  have CC := Lib.hid cc
  have HA := Lib.hid hA
  have HN := Lib.hid hN
  have hne : ¬ l = [] := by intro h; rw [h] at hin; simp at hin
  by_cases e1 : l.length = 1
  · have d1 : ((l.length : Int) == 1) = true := by simp [e1]
    have hi := inside_one e1 ⟨x, y⟩
    have k1 : (0 : Int) < (l.length : Int) := by omega
    have HI := Lib.hid hi
    clear hc hA hN cc hl hpl hx hi
    generalize (nth l 0).x = ax at *
    generalize (nth l 0).y = ay at *
    have hcase : (ax = x ∧ ay = y) ∨ (ax = x ∧ ¬ ay = y) ∨ ¬ ax = x := by omega
    have HI2 : Hid (inside l ⟨x, y⟩ = true ↔ ax = x ∧ ay = y) := HI.out
    clear HI
    rcases hcase with ⟨rfl, rfl⟩ | ⟨rfl, h⟩ | h
    · go_enter Try.func77, Try.ntmps77
      go_wp2
      (refine wp_region_low (by kernel_rfl) (by kernel_rfl) ?_; (iterate 6 (apply quiet_want; (case hw => rfl); (case hval => (intro w1 hw1; have hcx := Low.cells hw1; simp only [Oper.quietAt]; go_simp; first | done | (first | fail) | rfl | exact ⟨rfl, rfl⟩)); simp only [Act.put, List.setIfInBounds_toArray, List.set_cons_zero, List.set_cons_succ])); refine wpQuiet_nil ?_; intro w2 hw2)
      go_wp2
      go_ret
      exact ⟨by rw [HI2.out.2 (by simp)]; rfl, HA.out.trans (hw2.out.mono (by simp))⟩
    · have hf : inside l ⟨ax, y⟩ = false := by
        cases h' : inside l ⟨ax, y⟩
        · rfl
        · exact absurd (HI2.out.1 h').2 h
      go_enter Try.func77, Try.ntmps77
      go_wp2
      (refine wp_region_low (by kernel_rfl) (by kernel_rfl) ?_; (iterate 6 (apply quiet_want; (case hw => rfl); (case hval => (intro w1 hw1; have hcx := Low.cells hw1; simp only [Oper.quietAt]; go_simp; first | done | (first | fail) | rfl | exact ⟨rfl, rfl⟩)); simp only [Act.put, List.setIfInBounds_toArray, List.set_cons_zero, List.set_cons_succ])); refine wpQuiet_nil ?_; intro w2 hw2)
      go_wp2
      go_ret
      exact ⟨by rw [hf]; rfl, HA.out.trans (hw2.out.mono (by simp))⟩
    · have hf : inside l ⟨x, y⟩ = false := by
        cases h' : inside l ⟨x, y⟩
        · rfl
        · exact absurd (HI2.out.1 h').1 h
      go_enter Try.func77, Try.ntmps77
      go_wp2
      (refine wp_region_low (by kernel_rfl) (by kernel_rfl) ?_; (iterate 6 (apply quiet_want; (case hw => rfl); (case hval => (intro w1 hw1; have hcx := Low.cells hw1; simp only [Oper.quietAt]; go_simp; first | done | (first | fail) | rfl | exact ⟨rfl, rfl⟩)); simp only [Act.put, List.setIfInBounds_toArray, List.set_cons_zero, List.set_cons_succ])); refine wpQuiet_nil ?_; intro w2 hw2)
      go_wp2
      go_ret
      exact ⟨by rw [hf]; rfl, HA.out.trans (hw2.out.mono (by simp))⟩
  have d1 : ((l.length : Int) == 1) = false := by rw [beq_eq_false_iff_ne]; omega
  by_cases e2 : l.length = 2
  · have d2 : ((l.length : Int) == 2) = true := by simp [e2]
    have g3 := Low.fact (cc 1 (by omega)).1
    have g4 := Low.fact (cc 1 (by omega)).2
    simp only [Nat.one_mul] at g3 g4
    have p1 := placeB_true (HPL.out 1 (by omega))
    have hi := inside_two e2 ⟨x, y⟩
    have k1 : (0 : Int) < (l.length : Int) := by omega
    have k2 : (1 : Int) < (l.length : Int) := by omega
    rw [hi]
    clear hc hA hN cc hl hpl hx hi
    generalize (nth l 0).x = ax at *
    generalize (nth l 0).y = ay at *
    generalize (nth l 1).x = bx at *
    generalize (nth l 1).y = by' at *
    have hcr := fun w1 => cross_any ax ay bx by' x y w1 (by omega) (by omega) (by omega) (by omega) (by omega) (by omega) (by omega) (by omega) (by omega) (by omega) (by omega) (by omega)
    by_cases ht : turnV ax ay bx by' x y = 0
    · rw [ht] at hcr ⊢
      have dt : ((0 : Int) == 0) = true := rfl
      clear ht
      go_enter Try.func77, Try.ntmps77
      go_wp2
      (refine wp_region_low (by kernel_rfl) (by kernel_rfl) ?_; (iterate 20 (apply quiet_want; (case hw => rfl); (case hval => (intro w1 hw1; have hcx := Low.cells hw1; simp only [Oper.quietAt]; go_simp; first | done | (first | (go_at_call 48; exact Low.calls hw1 (hcr _)) | (go_at_call 114; exact Low.calls hw1 (rbtw_any _ _ _ _ _ _ _))) | rfl | exact ⟨rfl, rfl⟩)); simp only [Act.put, List.setIfInBounds_toArray, List.set_cons_zero, List.set_cons_succ])); refine wpQuiet_nil ?_; intro w2 hw2)
      go_wp2
      go_ret
      exact ⟨by simp, HA.out.trans (hw2.out.mono (by simp))⟩
    · have dt : (turnV ax ay bx by' x y == 0) = false := by rw [beq_eq_false_iff_ne]; exact ht
      rw [decide_eq_false ht]
      clear ht
      generalize turnV ax ay bx by' x y = t at *
      go_enter Try.func77, Try.ntmps77
      go_wp2
      (refine wp_region_low (by kernel_rfl) (by kernel_rfl) ?_; (iterate 10 (apply quiet_want; (case hw => rfl); (case hval => (intro w1 hw1; have hcx := Low.cells hw1; simp only [Oper.quietAt]; go_simp; first | done | (first | (go_at_call 48; exact Low.calls hw1 (hcr _)) | (go_at_call 114; exact Low.calls hw1 (rbtw_any _ _ _ _ _ _ _))) | rfl | exact ⟨rfl, rfl⟩)); simp only [Act.put, List.setIfInBounds_toArray, List.set_cons_zero, List.set_cons_succ])); (iterate 8 (apply quiet_skip; (case hw => rfl); simp only [Act.put, List.setIfInBounds_toArray, List.set_cons_zero, List.set_cons_succ])); (iterate 2 (apply quiet_want; (case hw => rfl); (case hval => (intro w1 hw1; have hcx := Low.cells hw1; simp only [Oper.quietAt]; go_simp; first | done | (first | (go_at_call 48; exact Low.calls hw1 (hcr _)) | (go_at_call 114; exact Low.calls hw1 (rbtw_any _ _ _ _ _ _ _))) | rfl | exact ⟨rfl, rfl⟩)); simp only [Act.put, List.setIfInBounds_toArray, List.set_cons_zero, List.set_cons_succ])); refine wpQuiet_nil ?_; intro w2 hw2)
      go_wp2
      go_ret
      exact ⟨rfl, HA.out.trans (hw2.out.mono (by simp))⟩
  have d2 : ((l.length : Int) == 2) = false := by rw [beq_eq_false_iff_ne]; omega
  have h3 : 3 ≤ l.length := by omega
  have hiff : inside l ⟨x, y⟩ = true ↔ ∀ i, i < l.length → 0 ≤ turnP (sideP l i).1 (sideP l i).2 ⟨x, y⟩ := by unfold inside; rw [if_neg (by omega), decide_eq_true_eq]
  have HIFF := Lib.hid hiff
  clear hc hA hN cc hl hpl hx hiff n0 n1 g1 g2 p0
  go_enter Try.func77, Try.ntmps77
  go_wp2
  go_loopw [6] (fun i wr => ∃ k : Nat, k ≤ l.length ∧ i = .int .i64 (k : Int) ∧ (∀ j, j < k → 0 ≤ turnP (sideP l j).1 (sideP l j).2 ⟨x, y⟩) ∧ Below (w.heap.size + 1) (w.alloc (.cells #[.int .i64 x, .int .i64 y] 31)) wr) (fun i _ => l.length - (intOf i).toNat)
  case atStart => exact ⟨0, by omega, rfl, fun j h => by omega, Below.refl _ _⟩
  case round =>
    obtain ⟨k, hk, rfl, hall, hB⟩ := hrel
    have HALL := Lib.hid hall
    clear hall
    have hzr := hB.size
    simp only [World.size_alloc] at hzr
    have hBw := HA.out.trans (hB.mono (by omega))
    by_cases hlt : k < l.length
    · obtain ⟨m, hm⟩ : ∃ m, (k + 1) % l.length = m := ⟨_, rfl⟩
      have hmlt : m < l.length := by rw [← hm]; exact Nat.mod_lt _ (by omega)
      have m1 : IntKind.i64.wrap ((k : Int) + 1) = (k : Int) + 1 := IntWalk.i64_in _ (by omega)
      have m2 : ((k : Int) + 1).tmod (l.length : Int) = (m : Int) := by
        have : ((k : Int) + 1).tmod (l.length : Int) = (((k + 1) % l.length : Nat) : Int) := by
          rw [Int.tmod_eq_emod_of_nonneg (by omega)]; rfl
        rw [this, hm]
      have HM := Lib.hid hm
      have dk : decide ((k : Int) < (l.length : Int)) = true := by simp; omega
      have pk := placeB_true (HPL.out k hlt)
      have pm := placeB_true (HPL.out m hmlt)
      have c1 := Low.fact ((hB.cell (p := ⟨b, o + k * 2, none⟩) (Nat.lt_succ_of_lt hb)).trans (CC.out k hlt).1)
      have c2 := Low.fact ((hB.cell (p := ⟨b, o + k * 2 + 1, none⟩) (Nat.lt_succ_of_lt hb)).trans (CC.out k hlt).2)
      have c3 := Low.fact ((hB.cell (p := ⟨b, o + m * 2, none⟩) (Nat.lt_succ_of_lt hb)).trans (CC.out m hmlt).1)
      have c4 := Low.fact ((hB.cell (p := ⟨b, o + m * 2 + 1, none⟩) (Nat.lt_succ_of_lt hb)).trans (CC.out m hmlt).2)
      have N := HN.out.below hB (by omega)
      have n0 := Low.fact (N.cell (i := 0) rfl)
      have n1 := Low.fact (N.cell (i := 1) rfl)
      have kl : (k : Int) < l.length := by omega
      have k0 : (0 : Int) ≤ k := by omega
      have ml : (m : Int) < l.length := by omega
      have m0 : (0 : Int) ≤ m := by omega
      have hs : Hid ((sideP l k).1 = nth l k ∧ (sideP l k).2 = nth l m) := ⟨rfl, by show nth l ((k + 1) % l.length) = _; rw [HM.out]⟩
      have HB := Lib.hid hB
      clear hm hB N
      have hcr := fun w1 => cross_any (nth l k).x (nth l k).y (nth l m).x (nth l m).y x y w1 (by omega) (by omega) (by omega) (by omega) (by omega) (by omega) (by omega) (by omega) (by omega) (by omega) (by omega) (by omega)
      have htv : Hid (turnP (sideP l k).1 (sideP l k).2 ⟨x, y⟩ = turnV (nth l k).x (nth l k).y (nth l m).x (nth l m).y x y) := by show _ = _; rw [hs.out.1, hs.out.2]; rfl
      clear pk pm
      generalize (nth l k).x = ax at *
      generalize (nth l k).y = ay at *
      generalize (nth l m).x = bx at *
      generalize (nth l m).y = by' at *
      by_cases ht : turnV ax ay bx by' x y < 0
      · have dt : decide (turnV ax ay bx by' x y < 0) = true := by simpa using ht
        have hf : inside l ⟨x, y⟩ = false := by
          cases h' : inside l ⟨x, y⟩
          · rfl
          · have := HIFF.out.1 h' k hlt
            rw [htv.out] at this; omega
        have HF := Lib.hid hf
        clear ht hf htv
        generalize turnV ax ay bx by' x y = t at *
        go_wp2
        (refine wp_region_low (by kernel_rfl) (by kernel_rfl) ?_; (iterate 14 (apply quiet_want; (case hw => rfl); (case hval => (intro w1 hw1; have hcx := Low.cells hw1; simp only [Oper.quietAt]; go_simp; first | done | (first | (go_at_call 48; exact Low.calls hw1 (hcr _))) | rfl | exact ⟨rfl, rfl⟩)); simp only [Act.put, List.setIfInBounds_toArray, List.set_cons_zero, List.set_cons_succ])); refine wpQuiet_nil ?_; intro w2 hw2)
        go_wp2
        go_ret
        exact ⟨by rw [HF.out]; rfl, hBw.trans (hw2.out.mono (by omega))⟩
      · have dt : decide (turnV ax ay bx by' x y < 0) = false := by simpa using ht
        have HALL2 : Hid (∀ j, j < k + 1 → 0 ≤ turnP (sideP l j).1 (sideP l j).2 ⟨x, y⟩) := fun j hj => by
          by_cases e : j = k
          · rw [e, htv.out]; omega
          · exact HALL.out j (by omega)
        clear ht htv
        generalize turnV ax ay bx by' x y = t at *
        go_wp2
        (refine wp_region_low (by kernel_rfl) (by kernel_rfl) ?_; (iterate 14 (apply quiet_want; (case hw => rfl); (case hval => (intro w1 hw1; have hcx := Low.cells hw1; simp only [Oper.quietAt]; go_simp; first | done | (first | (go_at_call 48; exact Low.calls hw1 (hcr _))) | rfl | exact ⟨rfl, rfl⟩)); simp only [Act.put, List.setIfInBounds_toArray, List.set_cons_zero, List.set_cons_succ])); refine wpQuiet_nil ?_; intro w2 hw2)
        go_wp2
        go_roundw
        case rel => exact ⟨k + 1, by omega, by go_num, HALL2.out, HB.out.trans (hw2.out.mono (by omega))⟩
        case measure => simp [intOf]; omega
    · obtain rfl : k = l.length := by omega
      have dk : decide ((l.length : Int) < (l.length : Int)) = false := by simp
      have HF := Lib.hid (HIFF.out.2 HALL.out)
      clear hB
      go_wp2
      go_ret
      exact ⟨by rw [HF.out]; rfl, hBw⟩
end Go.Proofs.Ytjjkmonfihomnaa
