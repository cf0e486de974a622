/- hull.Valid: its contract. -/
import Derived.Test.YtoekcefhphcjjaaBin04
import Derived.Test.YtoekcefhphcjjaaBin03
namespace Go.Proofs.Ytoekcefhphcjjaa
open Go.RowKit Go.Shelf
attribute [local go_sem] Oper.semAt_some
attribute [local irreducible] wpQuiet

/-- corner k is a place, and greater than the first one -/
def headOk (l : List Pt) (k : Nat) : Prop := placeP (nth l k) = true ∧ (0 < k → cmpP (nth l 0) (nth l k) < 0)
/-- as the code of package hull has it -/
def GoValid (l : List Pt) : Prop := 1 ≤ l.length ∧ l.length ≤ 64 ∧ (∀ k, k < l.length → headOk l k) ∧
  (3 ≤ l.length → ∀ i, i < l.length → ∀ k, k < l.length → nth l k ≠ (sideP l i).1 → nth l k ≠ (sideP l i).2 → 0 < turnP (sideP l i).1 (sideP l i).2 (nth l k))

open Classical in
noncomputable def goValid (l : List Pt) : Bool := decide (GoValid l)

set_option maxRecDepth 100000 in
set_option maxHeartbeats 2000000 in
theorem hullValid_size (v : Value) (l : List Pt) (w : World) (hp : PtsAt w.heap.size w v l) (hs : l.length < 1 ∨ 64 < l.length) :
    Calls Try.prog 28 #[v] w fun e w' => e = .returned (.bool (goValid l)) ∧ Below w.heap.size w w' := by
  have hr : goValid l = false := by simp only [goValid, decide_eq_false_iff_not]; rintro ⟨h1, h2, _⟩; omega
  rw [hr]; clear hr
  obtain ⟨hl, a, cap, rfl, hc⟩ := hp
  clear hc
  refine (callsIn_wide (n := 9)).1 ?_
  refine callsIn_of_wp_marks Try.func28 rfl trivial ?_ rfl
  simp only [Try.ntmps28, List.size_toArray, List.length_cons, List.length_nil, Nat.reduceAdd, Nat.reduceSub, Array.replicate_succ, Array.replicate_zero, List.push_toArray, List.append_toArray, List.nil_append, List.cons_append]
  refine wpIn_wide.2 ?_
  rcases hs with hs | hs
  · have d : decide ((l.length : Int) < 1) = true := by simp; omega
    have hs' := Lib.hid hs
    clear hs
    go_wp2
    exact ⟨.bool false, by simp [results, Try.f28, go_sem], rfl, by repeat (first | exact Below.refl _ _ | assumption | apply Below.drew | refine Below.setCell ?_ (by first | omega | (simp; done) | (simp; omega)) _ | refine Below.alloc ?_ (by first | omega | (simp; done) | (simp; omega)) _ | refine Below.call (by assumption) ?_ (by first | omega | (simp; done) | (simp; omega)))⟩
  · have d : decide ((l.length : Int) < 1) = false := by simp; omega
    have d : decide (64 < (l.length : Int)) = true := by simp; omega
    have hs' := Lib.hid hs
    clear hs
    go_wp2
    exact ⟨.bool false, by simp [results, Try.f28, go_sem], rfl, by repeat (first | exact Below.refl _ _ | assumption | apply Below.drew | refine Below.setCell ?_ (by first | omega | (simp; done) | (simp; omega)) _ | refine Below.alloc ?_ (by first | omega | (simp; done) | (simp; omega)) _ | refine Below.call (by assumption) ?_ (by first | omega | (simp; done) | (simp; omega)))⟩
theorem Boxed.below {W W' : World} {B n : Nat} {t : TypeId} {v : Value} (h : Boxed W B t v) (hb : Below n W W') (hlt : B < n) : Boxed W' B t v := (hb.block B hlt).trans h

/-- block B holds a row of cells -/
def Has (W : World) (B : Nat) (cs : Array Value) (t : TypeId) : Prop := W.heap[B]? = some (.cells cs t (0, 0))
theorem Has.lt {W : World} {B : Nat} {cs : Array Value} {t : TypeId} (h : Has W B cs t) : B < W.heap.size := (Array.getElem?_eq_some_iff.1 h).1
theorem has_kept {W W' : World} {row : Option Nat} {B : Nat} {cs : Array Value} {t : TypeId} (h : Has W B cs t) (hg : W.grownBy W' row) (hrow : ∀ r, row = some r → ∃ o : Obj, W.heap[r]? = some o ∧ o.isCells = false) : Has W' B cs t :=
  (hg.block B h.lt (fun e => by obtain ⟨o, ho, hc⟩ := hrow B e.symm; rw [show W.heap[B]? = _ from h] at ho; cases ho; cases hc)).trans h
theorem Has.below {W W' : World} {B n : Nat} {cs : Array Value} {t : TypeId} (h : Has W B cs t) (hb : Below n W W') (hlt : B < n) : Has W' B cs t := (hb.block B hlt).trans h
theorem Has.new (W : World) (cs : Array Value) (t : TypeId) : Has (W.alloc (.cells cs t)) W.heap.size cs t := World.alloc_heap_new W _
theorem Has.cell {W : World} {B : Nat} {cs : Array Value} {t : TypeId} (h : Has W B cs t) {i : Nat} {v : Value} (hi : cs[i]? = some v) : W.cell? ⟨B, i, none⟩ = some v := by
  simp [World.cell?, show W.heap[B]? = _ from h, hi]

/-- all other corners lie on the left of a side -/
def sideOk (l : List Pt) (s : Pt × Pt) : Prop := ∀ k, k < l.length → nth l k ≠ s.1 → nth l k ≠ s.2 → 0 < turnP s.1 s.2 (nth l k)

def okTo (l : List Pt) (a b : Pt) (k : Nat) : Prop := ∀ j, j < k → nth l j ≠ a → nth l j ≠ b → 0 < turnP a b (nth l j)
theorem okTo_skip {l : List Pt} {a b : Pt} {k : Nat} (h : okTo l a b k) (hk : nth l k = a ∨ nth l k = b) : okTo l a b (k + 1) := fun j hj h1 h2 => by
  by_cases e : j = k
  · subst e; rcases hk with hk | hk
    · exact absurd hk h1
    · exact absurd hk h2
  · exact h j (by omega) h1 h2
theorem okTo_more {l : List Pt} {a b : Pt} {k : Nat} (h : okTo l a b k) (hk : 0 < turnP a b (nth l k)) : okTo l a b (k + 1) := fun j hj h1 h2 => by
  by_cases e : j = k
  · subst e; exact hk
  · exact h j (by omega) h1 h2
theorem pt_cases (px py ax ay bx by' : Int) : ((px = ax ∧ py = ay) ∨ (px = ax ∧ ¬ py = ay ∧ ax = bx ∧ py = by') ∨ (¬ px = ax ∧ px = bx ∧ py = by')) ∨
    ((px = ax ∧ ¬ py = ay ∧ ax = bx ∧ ¬ py = by') ∨ (px = ax ∧ ¬ py = ay ∧ ¬ ax = bx) ∨ (¬ px = ax ∧ px = bx ∧ ¬ py = by') ∨ (¬ px = ax ∧ ¬ px = bx)) := by omega
theorem Pt.ne_of {a b : Pt} (h : ¬ (a.x = b.x ∧ a.y = b.y)) : a ≠ b := fun e => h (by rw [e]; exact ⟨rfl, rfl⟩)

theorem keeps_of_below {B : Nat} {W W' : World} (h : Below W.heap.size W W') : KeepsFrom B W W' :=
  ⟨h.size, fun k _ _ hk _ => (h.block k (Array.getElem?_eq_some_iff.1 hk).1).trans hk⟩
theorem mem_upto {α : Type} {f : Nat → α} {n : Nat} {x : α} : x ∈ upto f n ↔ ∃ i, i < n ∧ f i = x := by simp [upto]

/-- a side of places -/
abbrev PlS := { s : Pt × Pt // placeP s.1 = true ∧ placeP s.2 = true }
theorem nth_place {l : List Pt} (h : ∀ k, k < l.length → placeP (nth l k) = true) (k : Nat) : placeP (nth l k) = true := by
  by_cases hk : k < l.length
  · exact h k hk
  · have : nth l k = ⟨0, 0⟩ := by unfold nth; simp [List.getD_eq_getElem?_getD, List.getElem?_eq_none (by omega : l.length ≤ k)]
    rw [this]; rfl


set_option maxRecDepth 100000 in
set_option maxHeartbeats 4000000 in
theorem hullValid_two (v : Value) (l : List Pt) (w : World) (hp : PtsAt w.heap.size w v l) (h1 : 1 ≤ l.length) (h2 : l.length ≤ 64) :
    Calls Try.prog 28 #[v] w fun e w' => e = .returned (.bool (goValid l)) ∧ Below w.heap.size w w' := by
  obtain ⟨hl, a, cap, rfl, hc⟩ := hp
  obtain ⟨b, o, rfl, hb, hc⟩ : ∃ b o, a = some ⟨b, o, none⟩ ∧ b < w.heap.size ∧ ∀ j, j < l.length → w.cell? ⟨b, o + j * 2, none⟩ = some (.int .i64 (nth l j).x) ∧ w.cell? ⟨b, o + j * 2 + 1, none⟩ = some (.int .i64 (nth l j).y) := by
    rcases hc with rfl | h
    · simp at h1
    · exact h
  refine (callsIn_wide (n := 9)).1 ?_
  refine callsIn_of_wp_marks Try.func28 rfl trivial ?_ rfl
  simp only [Try.ntmps28, List.size_toArray, List.length_cons, List.length_nil, Nat.reduceAdd, Nat.reduceSub, Array.replicate_succ, Array.replicate_zero, List.push_toArray, List.append_toArray, List.nil_append, List.cons_append]
  refine wpIn_wide.2 ?_
  have d1 : decide ((l.length : Int) < 1) = false := by simp; omega
  have d2 : decide (64 < (l.length : Int)) = false := by simp; omega
  have hc' := Lib.hid hc
  clear hc
  go_wp2
  go_loopw [19] (fun i wr => ∃ k : Nat, k ≤ l.length ∧ i = .int .i64 k ∧ (∀ j, j < k → headOk l j) ∧
    Boxed wr w.heap.size 23 (.slice (some ⟨b, o, none⟩) l.length (l.length + cap)) ∧ Boxed wr (w.heap.size + 1) 4 (.bool false) ∧ Below w.heap.size w wr) (fun i _ => l.length - (intOf i).toNat)
  case atStart =>
    have bS := Boxed.new w 23 (.slice (some ⟨b, o, none⟩) l.length (l.length + cap))
    have bR := Boxed.new (w.alloc (.cells #[.slice (some ⟨b, o, none⟩) l.length (l.length + cap)] 23)) 4 (.bool false)
    rw [World.size_alloc] at bR
    exact ⟨0, Nat.zero_le _, rfl, fun j h => by omega, bS.alloc _, bR, by repeat (first | exact Below.refl _ _ | assumption | apply Below.drew | refine Below.setCell ?_ (by first | omega | (simp; done) | (simp; omega)) _ | refine Below.alloc ?_ (by first | omega | (simp; done) | (simp; omega)) _ | refine Below.call (by assumption) ?_ (by first | omega | (simp; done) | (simp; omega)))⟩
  case round =>
    obtain ⟨k, hk, rfl, hall, bS, bR, hB⟩ := hrel
    by_cases hlt : k < l.length
    · have hz := hB.size
      have hsr := bR.lt
      have c0 := bS.cell
      have c1 := (hB.cell (p := ⟨b, o + k * 2, none⟩) hb).trans (hc'.out k hlt).1
      have c2 := (hB.cell (p := ⟨b, o + k * 2 + 1, none⟩) hb).trans (hc'.out k hlt).2
      have c3 := (hB.cell (p := ⟨b, o + 0 * 2, none⟩) hb).trans (hc'.out 0 (by omega)).1
      have c4 := (hB.cell (p := ⟨b, o + 0 * 2 + 1, none⟩) hb).trans (hc'.out 0 (by omega)).2
      simp only [Nat.zero_mul, Nat.add_zero] at c3 c4
      have hB2 : Below wr.heap.size wr (wr.alloc (.cells #[.int .i64 (nth l k).x, .int .i64 (nth l k).y] 38)) := (Below.refl _ wr).alloc (Nat.le_refl _) _
      have hall' := Lib.hid hall
      have bS' := Lib.hid bS
      have bR' := Lib.hid bR
      clear hall bS bR
      have r0 := bR'.out.cell
      have r1 := bR'.out.frozen
      cases hpl : placeB (nth l k).x (nth l k).y
      · have hr : goValid l = false := by
          simp only [goValid, decide_eq_false_iff_not]
          rintro ⟨_, _, h3, _⟩
          have := (h3 k hlt).1
          rw [placeP, hpl] at this; cases this
        have HR := Lib.hid hr
        clear hr
        go_wp2
        (refine wp_region_low (by kernel_rfl) (by kernel_rfl) ?_; (iterate 4 (apply quiet_want; (case hw => rfl); (case hval => (intro w1 hw1; have hcx := Low.cells hw1; simp only [Oper.quietAt]; go_simp; first | done | (first | (go_at_call 29; exact Low.calls hw1 (isPlace_no _ _ _ hpl))) | rfl | exact ⟨rfl, rfl⟩)); simp only [Act.put, List.setIfInBounds_toArray, List.set_cons_zero, List.set_cons_succ])); (iterate 10 (apply quiet_skip; (case hw => rfl); simp only [Act.put, List.setIfInBounds_toArray, List.set_cons_zero, List.set_cons_succ])); (iterate 1 (apply quiet_want; (case hw => rfl); (case hval => (intro w1 hw1; have hcx := Low.cells hw1; simp only [Oper.quietAt]; go_simp; first | done | (first | (go_at_call 29; exact Low.calls hw1 (isPlace_no _ _ _ hpl))) | rfl | exact ⟨rfl, rfl⟩)); simp only [Act.put, List.setIfInBounds_toArray, List.set_cons_zero, List.set_cons_succ])); refine wpQuiet_nil ?_; intro w2 hw2)
        have hz2 := hw2.out.size
        rw [World.size_alloc] at hz2
        have bR2 : Boxed w2 (w.heap.size + 1) 4 (.bool false) := Boxed.below (bR'.out.alloc _) hw2.out (by rw [World.size_alloc]; omega)
        have q0 := bR2.cell
        have q1 := bR2.frozen
        go_wp2
        exact ⟨.bool false, by simp [results, Try.f28, go_sem, World.cell?_setCell_same' w2 ⟨w.heap.size + 1, 0, none⟩ (.bool false) (by rw [q0]; rfl)], ret_bool HR.out.symm, ((hB.alloc (by omega) _).trans (hw2.out.mono (by rw [World.size_alloc]; omega))).setCell (by simp) _⟩
      · by_cases hk0 : k = 0
        · subst hk0
          have dk : decide ((0 : Int) < ((0 : Nat) : Int)) = false := by simp
          go_wp2
          (refine wp_region_low (by kernel_rfl) (by kernel_rfl) ?_; (iterate 7 (apply quiet_want; (case hw => rfl); (case hval => (intro w1 hw1; have hcx := Low.cells hw1; simp only [Oper.quietAt]; go_simp; first | done | (first | (go_at_call 29; exact Low.calls hw1 (isPlace_yes _ _ _ hpl))) | rfl | exact ⟨rfl, rfl⟩)); simp only [Act.put, List.setIfInBounds_toArray, List.set_cons_zero, List.set_cons_succ])); (iterate 6 (apply quiet_skip; (case hw => rfl); simp only [Act.put, List.setIfInBounds_toArray, List.set_cons_zero, List.set_cons_succ])); (iterate 2 (apply quiet_want; (case hw => rfl); (case hval => (intro w1 hw1; have hcx := Low.cells hw1; simp only [Oper.quietAt]; go_simp; first | done | (first | (go_at_call 29; exact Low.calls hw1 (isPlace_yes _ _ _ hpl))) | rfl | exact ⟨rfl, rfl⟩)); simp only [Act.put, List.setIfInBounds_toArray, List.set_cons_zero, List.set_cons_succ])); refine wpQuiet_nil ?_; intro w2 hw2)
          have hz2 := hw2.out.size
          rw [World.size_alloc] at hz2
          go_wp2
          go_roundw
          case rel =>
            refine ⟨1, by omega, rfl, fun j hj => ?_, Boxed.below (bS'.out.alloc _) hw2.out (by rw [World.size_alloc]; omega), Boxed.below (bR'.out.alloc _) hw2.out (by rw [World.size_alloc]; omega), (hB.alloc (by omega) _).trans (hw2.out.mono (by rw [World.size_alloc]; omega))⟩
            obtain rfl : j = 0 := by omega
            exact ⟨hpl, fun h => by omega⟩
          case measure => simp [intOf]; omega
        · have hk1 : (0 : Int) < (k : Int) := by omega
          have dk : decide (0 < k) = true := by simp; omega
          have hkn : 0 < k := by omega
          have hl0 : 0 < l.length := by omega
          have hbl := World.block_lt_of_cell? wr _ c1
          have f0 := (hB2.cell (p := ⟨w.heap.size, 0, none⟩) (World.block_lt_of_cell? wr _ c0)).trans c0
          have f3 := (hB2.cell (p := ⟨b, o, none⟩) hbl).trans c3
          have f4 := (hB2.cell (p := ⟨b, o + 1, none⟩) hbl).trans c4
          have g0 := Low.fact f0
          have g3 := Low.fact f3
          have g4 := Low.fact f4
          by_cases hcmp : cmpV (nth l 0).x (nth l 0).y (nth l k).x (nth l k).y < 0
          · have dc : decide (0 ≤ cmpV (nth l 0).x (nth l 0).y (nth l k).x (nth l k).y) = false := by simp; omega
            have HC := Lib.hid hcmp
            clear hcmp
            go_wp2
            (refine wp_region_low (by kernel_rfl) (by kernel_rfl) ?_; (iterate 15 (apply quiet_want; (case hw => rfl); (case hval => (intro w1 hw1; have hcx := Low.cells hw1; simp only [Oper.quietAt]; go_simp; first | done | (first | (go_at_call 29; exact Low.calls hw1 (isPlace_yes _ _ _ hpl)) | (go_at_call 61; exact Low.calls hw1 (compare_any _ _ _ _ _))) | rfl | exact ⟨rfl, rfl⟩)); simp only [Act.put, List.setIfInBounds_toArray, List.set_cons_zero, List.set_cons_succ])); refine wpQuiet_nil ?_; intro w2 hw2)
            have hz2 := hw2.out.size
            rw [World.size_alloc] at hz2
            go_wp2
            go_roundw
            case rel =>
              refine ⟨k + 1, by omega, by simp, fun j hj => ?_, Boxed.below (bS'.out.alloc _) hw2.out (by rw [World.size_alloc]; omega), Boxed.below (bR'.out.alloc _) hw2.out (by rw [World.size_alloc]; omega), (hB.alloc (by omega) _).trans (hw2.out.mono (by rw [World.size_alloc]; omega))⟩
              by_cases e : j = k
              · subst e; exact ⟨hpl, fun _ => HC.out⟩
              · exact hall'.out j (by omega)
            case measure => simp [intOf]; omega
          · have dc : decide (0 ≤ cmpV (nth l 0).x (nth l 0).y (nth l k).x (nth l k).y) = true := by simp; omega
            have hr : goValid l = false := by
              simp only [goValid, decide_eq_false_iff_not]
              rintro ⟨_, _, h3, _⟩
              exact hcmp ((h3 k hlt).2 (by omega))
            have HR := Lib.hid hr
            clear hr hcmp
            go_wp2
            (refine wp_region_low (by kernel_rfl) (by kernel_rfl) ?_; (iterate 15 (apply quiet_want; (case hw => rfl); (case hval => (intro w1 hw1; have hcx := Low.cells hw1; simp only [Oper.quietAt]; go_simp; first | done | (first | (go_at_call 29; exact Low.calls hw1 (isPlace_yes _ _ _ hpl)) | (go_at_call 61; exact Low.calls hw1 (compare_any _ _ _ _ _))) | rfl | exact ⟨rfl, rfl⟩)); simp only [Act.put, List.setIfInBounds_toArray, List.set_cons_zero, List.set_cons_succ])); refine wpQuiet_nil ?_; intro w2 hw2)
            have hz2 := hw2.out.size
            rw [World.size_alloc] at hz2
            have bR2 : Boxed w2 (w.heap.size + 1) 4 (.bool false) := Boxed.below (bR'.out.alloc _) hw2.out (by rw [World.size_alloc]; omega)
            have q0 := bR2.cell
            have q1 := bR2.frozen
            go_wp2
            exact ⟨.bool false, by simp [results, Try.f28, go_sem, World.cell?_setCell_same' w2 ⟨w.heap.size + 1, 0, none⟩ (.bool false) (by rw [q0]; rfl)], ret_bool HR.out.symm, ((hB.alloc (by omega) _).trans (hw2.out.mono (by rw [World.size_alloc]; omega))).setCell (by simp) _⟩
    · obtain rfl : k = l.length := by omega
      have c0 := bS.cell
      have r0 := bR.cell
      have r1 := bR.frozen
      have hz := hB.size
      by_cases h3 : l.length < 3
      · have d3 : decide ((l.length : Int) < 3) = true := by simp; omega
        have hr : goValid l = true := by
          simp only [goValid, decide_eq_true_eq]
          exact ⟨h1, h2, hall, fun h => by omega⟩
        have HR := Lib.hid hr
        clear hr hall
        go_wp2
        exact ⟨.bool true, by simp [results, Try.f28, go_sem, World.cell?_setCell_same' wr ⟨w.heap.size + 1, 0, none⟩ (.bool true) (by rw [r0]; rfl)], ret_bool HR.out.symm, hB.setCell (by simp) _⟩
      · have d3 : decide ((l.length : Int) < 3) = false := by simp; omega
        have hall' := Lib.hid hall
        clear hall
        go_wp2_with (go_at_call 31; refine (sides_any _ _ _ _).mono ?_; rintro e w' ⟨rfl, rfl⟩)
        have hz' : (wr.alloc (.cells #[.slice (some ⟨b, o, none⟩) l.length (l.length + cap)] 23)).heap.size = wr.heap.size + 1 := by simp
        have hBa : Below w.heap.size w (wr.alloc (.cells #[.slice (some ⟨b, o, none⟩) l.length (l.length + cap)] 23)) := hB.alloc hz _
        have bN := Boxed.new wr 23 (.slice (some ⟨b, o, none⟩) l.length (l.length + cap))
        have bS0 := bS.alloc (.cells #[.slice (some ⟨b, o, none⟩) l.length (l.length + cap)] 23)
        have bR0 := bR.alloc (.cells #[.slice (some ⟨b, o, none⟩) l.length (l.length + cap)] 23)
        obtain ⟨W0, hW0⟩ : ∃ W0, (wr.alloc (.cells #[.slice (some ⟨b, o, none⟩) l.length (l.length + cap)] 23)) = W0 := ⟨_, rfl⟩
        rw [hW0] at hz' hBa bN bS0 bR0 ⊢
        clear hW0 bS bR c0 r0 r1
        have hI : PtsAt (wr.heap.size + 1) W0 (.slice (some ⟨b, o, none⟩) l.length (l.length + cap)) l :=
          PtsAt.mono (PtsAt.below hBa ⟨hl, _, cap, rfl, Or.inr ⟨b, o, rfl, hb, hc'.out⟩⟩) (by omega)
        have hpl : ∀ i, placeP (sideP l i).1 = true ∧ placeP (sideP l i).2 = true := fun i => ⟨nth_place (fun k hk => (hall'.out k hk).1) _, nth_place (fun k hk => (hall'.out k hk).1) _⟩
        refine (wpIn_wide (n := 9)).1 ?_
        refine wpIn_rangeFunc_ownH rfl (by omega) (gf := 62) (lb := #[.pointer (some ⟨wr.heap.size, 0, none⟩)]) rfl trivial (enters_of Try.func62 (by kernel_rfl) rfl)
          (sides_stops (fun s : PlS => encS s.1) (fun i => ⟨sideP l i, hpl i⟩) 8 (by omega) wr.heap.size (wr.heap.size + 1) _ l _ (by omega) (by rw [hz']; omega) bN.cell hI (fun _ _ => rfl)) belowK_t (belowK_b (by rw [hz']; omega)) (Below.refl _ _) (fun _ => rfl)
          (fun pre W => (Boxed W w.heap.size 23 (.slice (some ⟨b, o, none⟩) l.length (l.length + cap)) ∧ Boxed W (w.heap.size + 1) 4 (.bool false)) ∧ (Below w.heap.size W0 W ∧ ∀ s ∈ pre, sideOk l s.1))
          (fun c pre W => (Boxed W (w.heap.size + 1) 4 (.bool false) ∧ (c = .ret ∧ ∃ s ∈ pre, ¬ sideOk l s.1)) ∧ Below w.heap.size W0 W)
          (OwnFrom.and (OwnFrom.and (Own.from (boxed_own _ _ (fun _ => _)) _) (Own.from (boxed_own _ _ (fun _ => _)) _)) (OwnFrom.and (ownFrom_below (by rw [hz']; omega) (by rw [hz']; omega)) (ownFrom_pure _ _)))
          (fun c => OwnFrom.and (OwnFrom.and (Own.from (boxed_own _ _ (fun _ => _)) _) (ownFrom_pure _ _)) (ownFrom_below (by rw [hz']; omega) (by rw [hz']; omega)))
          ⟨⟨bS0, bR0⟩, Below.refl _ _, by simp⟩
          (fun x a' W => ∃ B1 B2, (Has W B1 #[.int .i64 x.1.1.x, .int .i64 x.1.1.y] 38 ∧ Has W B2 #[.int .i64 x.1.2.x, .int .i64 x.1.2.y] 38) ∧ a' = { tmps := #[.slice (some ⟨b, o, none⟩) l.length (l.length + cap), .pointer (some ⟨w.heap.size, 0, none⟩), .pointer (some ⟨w.heap.size + 1, 0, none⟩), u3, u4, .pointer (some ⟨B1, 0, none⟩), .pointer (some ⟨B2, 0, none⟩), undef, undef, .slice (some ⟨b, o, none⟩) l.length (l.length + cap), .int .i64 (l.length : Int), .bool false, .bool false, .slice (some ⟨b, o, none⟩) l.length (l.length + cap), .int .i64 (l.length : Int), .bool false, .bool false, .slice (some ⟨b, o, none⟩) l.length (l.length + cap), .int .i64 (l.length : Int), .int .i64 (l.length : Int), .bool false, u21, u22, u23, u24, u25, u26, u27, u28, u29, u30, u31, u32, u33, u34, u35, u36, u37, u38, u39, .slice (some ⟨b, o, none⟩) l.length (l.length + cap), .int .i64 (l.length : Int), .bool false, .slice (some ⟨b, o, none⟩) l.length (l.length + cap), .func (.func 62) #[] #[.pointer (some ⟨wr.heap.size, 0, none⟩)], .agg #[.int .i64 x.1.1.x, .int .i64 x.1.1.y], .agg #[.int .i64 x.1.2.x, .int .i64 x.1.2.y], undef, undef, undef, undef, undef, undef, undef, undef, undef, undef, undef, undef, undef, undef, undef, undef, undef, undef, undef, undef, undef, undef], defers := [] })
          (fun x a' _ X Y row hs hg hr => by obtain ⟨B1, B2, ⟨g1, g2⟩, g3⟩ := hs; exact ⟨B1, B2, ⟨has_kept g1 hg (fun r e => (hr r e).2), has_kept g2 hg (fun r e => (hr r e).2)⟩, g3⟩)
          ?assign ?body ?done ?stop
        case assign =>
          rintro ll pre x W K ⟨⟨bS1, bR1⟩, hB1, hp1⟩ hK
          unfold encS
          gi_wp2
          have hzW := hB1.size
          exact hK _ _ (((KeepsOthers.alloc _ _).trans (KeepsOthers.alloc _ _)).from _) (((Below.refl _ W).alloc (by omega) _).alloc (by simp; omega) _)
            ⟨⟨(bS1.alloc _).alloc _, (bR1.alloc _).alloc _⟩, (hB1.alloc (by omega) _).alloc (by simp; omega) _, hp1⟩
            ⟨W.heap.size, W.heap.size + 1, ⟨Has.below (Has.new W _ _) ((Below.refl (W.heap.size + 1) _).alloc (by simp) _) (by omega), by have := Has.new (W.alloc (.cells #[.int .i64 x.1.1.x, .int .i64 x.1.1.y] 38)) #[.int .i64 x.1.2.x, .int .i64 x.1.2.y] 38; rwa [World.size_alloc] at this⟩, rfl⟩
        case body =>
          rintro ll pre ⟨⟨⟨ax, ay⟩, ⟨bx, by'⟩⟩, hxx⟩ a' W hll ⟨r, hr⟩ ⟨⟨bS1, bR1⟩, hB1, hp1⟩ ⟨B1, B2, ⟨g1, g2⟩, rfl⟩ hlt
          dsimp only at g1 g2 ⊢
          have pa := placeB_true hxx.1
          have pb := placeB_true hxx.2
          dsimp only at pa pb
          obtain ⟨S, hS⟩ : ∃ S : PlS, S = ⟨(⟨ax, ay⟩, ⟨bx, by'⟩), hxx⟩ := ⟨_, rfl⟩
          rw [← hS]
          have HS : Hid (S.1 = (⟨ax, ay⟩, ⟨bx, by'⟩)) := by show S.1 = _; rw [hS]
          clear hS
          have hzW := hB1.size
          have hBw := hBa.trans hB1
          have c0 := bS1.cell
          have hll' := Lib.hid hll
          have hr' := Lib.hid hr
          have hlt' := Lib.hid hlt
          clear hll hr hlt hxx
          gi_wp2
          gi_loopw [49] (fun i wv => ∃ k : Nat, k ≤ l.length ∧ i = .int .i64 k ∧ okTo l ⟨ax, ay⟩ ⟨bx, by'⟩ k ∧ Below W.heap.size W wv) (fun i _ => l.length - (intOf i).toNat)
          case atStart => exact ⟨0, Nat.zero_le _, rfl, fun j h => by omega, Below.refl _ _⟩
          case round =>
            obtain ⟨k, hk, rfl, hok, hv⟩ := hrel
            by_cases hlk : k < l.length
            · have hbv := hBw.trans (hv.mono (by have := hBw.size; omega))
              have c1 := (hbv.cell (p := ⟨b, o + k * 2, none⟩) hb).trans (hc'.out k hlk).1
              have c2 := (hbv.cell (p := ⟨b, o + k * 2 + 1, none⟩) hb).trans (hc'.out k hlk).2
              have pp := placeB_true (hall'.out k hlk).1
              obtain ⟨px, py, hN⟩ : ∃ px py, nth l k = ⟨px, py⟩ := ⟨_, _, rfl⟩
              rw [hN] at c1 c2 pp
              dsimp only at c1 c2 pp
              have HN := Lib.hid hN
              have hok' := Lib.hid hok
              have hp1' := Lib.hid hp1
              have G1 := g1.below hv g1.lt
              have G2 := g2.below hv g2.lt
              have bRv := Boxed.below bR1 hv bR1.lt
              have hzv := hv.size
              clear hN hok hp1
              have hv2 : Below wr.heap.size wr (wr.alloc (.cells #[.int .i64 px, .int .i64 py] 38)) := (Below.refl _ wr).alloc (Nat.le_refl _) _
              have a1 := (hv2.cell (p := ⟨B1, 0, none⟩) G1.lt).trans (G1.cell (i := 0) rfl)
              have a2 := (hv2.cell (p := ⟨B1, 1, none⟩) G1.lt).trans (G1.cell (i := 1) rfl)
              have a3 := (hv2.cell (p := ⟨B2, 0, none⟩) G2.lt).trans (G2.cell (i := 0) rfl)
              have a4 := (hv2.cell (p := ⟨B2, 1, none⟩) G2.lt).trans (G2.cell (i := 1) rfl)
              have HG := Lib.hid (And.intro G1 G2)
              have HR1 := Lib.hid (And.intro bS1 bR1)
              have HRv := Lib.hid bRv
              clear G1 G2 bS1 bR1 bRv
              rcases pt_cases px py ax ay bx by' with h | h
              · rcases h with ⟨rfl, rfl⟩ | ⟨rfl, hn, rfl, rfl⟩ | ⟨hn, rfl, rfl⟩
                all_goals
                  gi_wp2
                  refine ⟨trivial, ?_⟩
                  gi_wp2
                  go_roundw
                  case rel => exact ⟨k + 1, by omega, by simp, okTo_skip hok'.out (by first | exact Or.inl HN.out | exact Or.inr HN.out), hv.alloc (by omega) _⟩
                  case measure => simp [intOf]; omega
              · have hne : nth l k ≠ ⟨ax, ay⟩ ∧ nth l k ≠ ⟨bx, by'⟩ := by
                  rw [HN.out]
                  constructor
                  · exact Pt.ne_of (by dsimp only; omega)
                  · exact Pt.ne_of (by dsimp only; omega)
                have hT : turnP ⟨ax, ay⟩ ⟨bx, by'⟩ (nth l k) = turnV ax ay bx by' px py := by rw [HN.out]; rfl
                have HNE := Lib.hid hne
                have HT := Lib.hid hT
                clear hne hT
                by_cases ht : turnV ax ay bx by' px py ≤ 0
                · have dt : decide (turnV ax ay bx by' px py ≤ 0) = true := by simpa using ht
                  have Ht := Lib.hid ht
                  clear ht
                  rcases h with ⟨rfl, hn, rfl, hm⟩ | ⟨rfl, hn, hm⟩ | ⟨hn, rfl, hm⟩ | ⟨hn, hm⟩
                  all_goals
                    gi_wp2_with (refine ⟨trivial, ?_⟩; gi_at_call 30; refine (CallsIn.inRound ll (callsIn_wide.2 (turn_any _ _ _ _ _ _ _ (by omega) (by omega) (by omega) (by omega) (by omega) (by omega) (by omega) (by omega) (by omega) (by omega) (by omega) (by omega)))).mono ?_; rintro e w2 ⟨rfl, hb2⟩; have bR2 := Boxed.below (HRv.out.alloc (.cells #[.int .i64 px, .int .i64 py] 38)) hb2 (by rw [World.size_alloc]; have := HRv.out.lt; omega); have q0 := bR2.cell; have q1 := bR2.frozen)
                    have hz2 := hb2.size
                    rw [World.size_alloc] at hz2
                    have hW2 : Below W.heap.size W w2 := (hv.alloc (by omega) _).trans (hb2.mono (by rw [World.size_alloc]; omega))
                    exact ⟨(keeps_of_below hW2).trans ((KeepsOthers.setCell _ _ _).from _), ⟨bR2.set _, rfl, S, by simp, fun h => by
                      rw [HS.out] at h
                      have h4 := h k hlk HNE.out.1 HNE.out.2
                      rw [HT.out] at h4
                      have := Ht.out
                      omega⟩, (hB1.trans (hW2.mono (by omega))).setCell (by simp) _⟩
                · have dt : decide (turnV ax ay bx by' px py ≤ 0) = false := by simpa using ht
                  have Ht := Lib.hid ht
                  clear ht
                  rcases h with ⟨rfl, hn, rfl, hm⟩ | ⟨rfl, hn, hm⟩ | ⟨hn, rfl, hm⟩ | ⟨hn, hm⟩
                  all_goals
                    gi_wp2_with (refine ⟨trivial, ?_⟩; gi_at_call 30; refine (CallsIn.inRound ll (callsIn_wide.2 (turn_any _ _ _ _ _ _ _ (by omega) (by omega) (by omega) (by omega) (by omega) (by omega) (by omega) (by omega) (by omega) (by omega) (by omega) (by omega)))).mono ?_; rintro e w2 ⟨rfl, hb2⟩)
                    have hz2 := hb2.size
                    rw [World.size_alloc] at hz2
                    go_roundw
                    case rel => exact ⟨k + 1, by omega, by simp, okTo_more hok'.out (by rw [HT.out]; have := Ht.out; omega), (hv.alloc (by omega) _).trans (hb2.mono (by rw [World.size_alloc]; omega))⟩
                    case measure => simp [intOf]; omega
            · have hv' := Lib.hid hv
              have hok' : Hid (sideOk l S.1) := by show sideOk l S.1; rw [HS.out]; intro j hj; exact hok j (by omega)
              have hp1' := Lib.hid hp1
              clear hok hp1
              obtain rfl : k = l.length := by omega
              gi_wp2
              exact ⟨keeps_of_below hv'.out, hv'.out.mono (by omega), ⟨Boxed.below bS1 hv'.out bS1.lt, Boxed.below bR1 hv'.out bR1.lt⟩, hB1.trans (hv'.out.mono (by omega)), fun s hs => by
                rcases List.mem_append.1 hs with hs | hs
                · exact hp1'.out s hs
                · obtain rfl : s = S := by simpa using hs
                  exact hok'.out⟩
        case done =>
          rintro D ys W hD rfl ⟨⟨bS1, bR1⟩, hB1, hp1⟩ hK
          have hr : goValid l = true := by
            simp only [goValid, decide_eq_true_eq]
            exact ⟨h1, h2, hall'.out, fun _ i hi => hp1 ⟨sideP l i, hpl i⟩ (mem_upto.2 ⟨i, hi, rfl⟩)⟩
          have HR := Lib.hid hr
          have hzW := hB1.size
          clear hr hp1
          have q0 := bR1.cell
          have q1 := bR1.frozen
          have hK' := (KeepsOthers.setCell W ⟨w.heap.size + 1, 0, none⟩ (.bool true)).same D _ hK rfl
          have hc5 := cell_kept (World.cell?_setCell_same' W ⟨w.heap.size + 1, 0, none⟩ (.bool true) (by rw [q0]; rfl)) (grownBy_putObj' _ D (.deferred none)) (fun r e => by cases e; exact ⟨_, hK', rfl⟩)
          have HK := Lib.hid hK'
          have HC := Lib.hid hc5
          clear hK' hc5
          go_wp2
          refine ⟨by simp, .inl ⟨_, _, rfl, run_takeDeferred HK.out, ?_⟩⟩
          refine ⟨.bool true, by simp [results, Try.f28, go_sem, HC.out], ret_bool HR.out.symm, ?_⟩
          exact ((hBa.trans hB1).setCell (p := ⟨w.heap.size + 1, 0, none⟩) (by simp) _).trans (belowK_b (w := w) (Nat.le_refl _) _ D _ _ (by omega) HK.out rfl rfl)
        case stop =>
          rintro D c pre W hD ⟨k2, hk2, rfl⟩ ⟨⟨bR1, rfl, s, hs, hns⟩, hB1⟩ hK
          have hr : goValid l = false := by
            simp only [goValid, decide_eq_false_iff_not]
            rintro ⟨_, _, _, h4⟩
            obtain ⟨i, hi, rfl⟩ := mem_upto.1 hs
            exact hns (h4 (by omega) i (by omega))
          have HR := Lib.hid hr
          have hzW := hB1.size
          clear hr hns hs
          have hc5 := cell_kept bR1.cell (grownBy_putObj' _ D (.deferred none)) (fun r e => by cases e; exact ⟨_, hK, rfl⟩)
          have HK := Lib.hid hK
          have HC := Lib.hid hc5
          clear hK hc5
          refine wpIn_wide.2 ?_
          go_wp2
          refine ⟨by simp, .inl ⟨_, _, rfl, run_takeDeferred HK.out, ?_⟩⟩
          refine ⟨.bool false, by simp [results, Try.f28, go_sem, HC.out], ret_bool HR.out.symm, ?_⟩
          exact (hBa.trans hB1).trans (belowK_b (w := w) (Nat.le_refl _) _ D _ _ (by omega) HK.out rfl rfl)

theorem hullValid_any (v : Value) (l : List Pt) (w : World) (hp : PtsAt w.heap.size w v l) :
    Calls Try.prog 28 #[v] w fun e w' => e = .returned (.bool (goValid l)) ∧ Below w.heap.size w w' := by
  by_cases h : 1 ≤ l.length ∧ l.length ≤ 64
  · exact hullValid_two v l w hp h.1 h.2
  · exact hullValid_size v l w hp (by omega)
end Go.Proofs.Ytoekcefhphcjjaa
