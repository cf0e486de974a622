/- Plain: what cut.Apart reports, in words of geometry. -/
import Derived.Test.YtjjkmonfihomnaaTouch
namespace Go.Proofs.Ytjjkmonfihomnaa

theorem frameP_ne (a b : Pt) (s t : Int) : frameP a b s t ≠ [] := by unfold frameP; simp
theorem crossST_ne {S T : Pt × Pt} : crossST S T ≠ [] ↔ CrossS S T := by
  unfold crossST CrossS
  split
  · exact ⟨fun _ => by assumption, fun _ => frameP_ne _ _ _ _⟩
  · rename_i h; exact ⟨fun h' => absurd rfl h', fun h' => absurd h' h⟩
theorem crossP_ne {l m : List Pt} : crossP l m ≠ [] ↔ ∃ i j, i < l.length ∧ j < m.length ∧ CrossS (sideP l i) (sideP m j) := by
  unfold crossP crossL rowS sidesL
  constructor
  · intro h
    obtain ⟨x, hx⟩ := List.exists_mem_of_ne_nil _ h
    simp only [List.mem_flatMap, mem_upto] at hx
    obtain ⟨S, ⟨i, hi, rfl⟩, T, ⟨j, hj, rfl⟩, hx⟩ := hx
    exact ⟨i, j, hi, hj, crossST_ne.1 (List.ne_nil_of_mem hx)⟩
  · rintro ⟨i, j, hi, hj, h⟩
    obtain ⟨x, hx⟩ := List.exists_mem_of_ne_nil _ (crossST_ne.2 h)
    refine List.ne_nil_of_mem (a := x) ?_
    simp only [List.mem_flatMap, mem_upto]
    exact ⟨_, ⟨i, hi, rfl⟩, _, ⟨j, hj, rfl⟩, hx⟩
theorem goValid_of {l : List Pt} (h : GoValid l) : goValid l = true := by simpa [goValid] using h
theorem hasB_iff {l : List Pt} {x : Pt} (hl : GoValid l) (hx : placeP x = true) : hasB l x = true ↔ inside l x = true := by
  unfold hasB; rw [goValid_of hl, hx]; simp
theorem cornersP_ne {l m : List Pt} (hl : GoValid l) (hm : GoValid m) : cornersP l m ≠ [] ↔ ∃ k, k < l.length ∧ inside m (nth l k) = true := by
  constructor
  · intro h
    obtain ⟨x, hx⟩ := List.exists_mem_of_ne_nil _ h
    obtain ⟨k, hk, rfl, hb⟩ := (mem_cornersTo _).1 hx
    exact ⟨k, hk, (hasB_iff hm (hl.2.2.1 k hk).1).1 hb⟩
  · rintro ⟨k, hk, h⟩
    exact List.ne_nil_of_mem ((mem_cornersTo _).2 ⟨k, hk, rfl, (hasB_iff hm (hl.2.2.1 k hk).1).2 h⟩)
theorem touchB_iff {l m : List Pt} (hl : GoValid l) (hm : GoValid m) : touchB l m = true ↔ Touch l m := by
  unfold touchB
  rw [goValid_of hl, goValid_of hm]
  simp only [Bool.and_true, Bool.true_and, Bool.not_eq_true', decide_eq_false_iff_not]
  rw [show ((sharedP l m).length = 0) = (sharedP l m = []) from propext List.length_eq_zero_iff]
  unfold sharedP Touch
  rw [← cornersP_ne hl hm, ← cornersP_ne hm hl, ← crossP_ne]
  by_cases h1 : cornersP l m = []
  · by_cases h2 : cornersP m l = []
    · by_cases h3 : crossP l m = []
      · simp [h1, h2, h3]
      · simp [h1, h2, h3]
    · simp [h2]
  · simp [h1]
/-- THEOREM of layer 33: a corridor that is clear of a rock has no place of it -/
theorem clear_has {c p : List Pt} (hc : goValid c = true) (hp : goValid p = true) (h : touchB c p = false) {x : Pt} (hx : hasB c x = true) : hasB p x = false := by
  cases hb : hasB p x
  · rfl
  have gc := goValid_true hc
  have gp := goValid_true hp
  unfold hasB at hx hb
  simp only [Bool.and_eq_true] at hx hb
  have := (touchB_iff gc gp).2 (touch_point gc gp (X := x.x) (Y := x.y) (W := 1) (by omega) (inH_of_inside gc hx.2) (inH_of_inside gp hb.2))
  rw [this] at h; cases h

/-- a polygon's points are made of three corners, or fewer -/
theorem inH_corners {l : List Pt} (hl : GoValid l) {X Y W : Int} (h : InH l X Y W) : ∃ a b c : Nat, a < l.length ∧ b < l.length ∧ c < l.length ∧ ∃ K r s t : Int, 0 < K ∧ 0 ≤ r ∧ 0 ≤ s ∧ 0 ≤ t ∧
    K * X = r * (nth l a).x + s * (nth l b).x + t * (nth l c).x ∧ K * Y = r * (nth l a).y + s * (nth l b).y + t * (nth l c).y ∧ K * W = r + s + t := by
  have l1 := hl.1
  unfold InH at h
  by_cases h3 : l.length < 3
  · rw [if_pos h3] at h
    obtain ⟨K, s, t, hK, hs, ht, e1, e2, e3⟩ := h
    exact ⟨0, l.length - 1, 0, by omega, by omega, by omega, K, s, t, 0, hK, hs, ht, by omega, by omega, by omega, by omega⟩
  · rw [if_neg h3] at h
    have hc := hl.conv (by omega)
    have g : ∃ k, 1 ≤ k ∧ k + 1 < l.length ∧ 0 ≤ hturn (nth l 0) (nth l k) X Y W ∧ hturn (nth l 0) (nth l (k + 1)) X Y W ≤ 0 := by
      have f1 : 0 ≤ hturn (nth l 0) (nth l 1) X Y W := by have := h 0 (by omega); unfold sideP at this; rwa [Nat.mod_eq_of_lt (by omega)] at this
      have fn : hturn (nth l 0) (nth l (l.length - 1)) X Y W ≤ 0 := by
        have := h (l.length - 1) (by omega)
        unfold sideP at this
        rw [show l.length - 1 + 1 = l.length by omega, Nat.mod_self] at this
        have this' : 0 ≤ hturn (nth l (l.length - 1)) (nth l 0) X Y W := this
        have e : hturn (nth l 0) (nth l (l.length - 1)) X Y W = -hturn (nth l (l.length - 1)) (nth l 0) X Y W := by unfold hturn; grind
        omega
      have step : ∀ d k, 1 ≤ k → k + d = l.length - 1 → 0 ≤ hturn (nth l 0) (nth l k) X Y W → (k < l.length - 1) → ∃ k, 1 ≤ k ∧ k + 1 < l.length ∧ 0 ≤ hturn (nth l 0) (nth l k) X Y W ∧ hturn (nth l 0) (nth l (k + 1)) X Y W ≤ 0 := fun d => by
        induction d with
        | zero => intro k h1 h2 h4 h5; omega
        | succ d ih =>
          intro k h1 h2 h4 h5
          rcases Int.lt_or_le 0 (hturn (nth l 0) (nth l (k + 1)) X Y W) with h' | h'
          · by_cases e : k + 1 = l.length - 1
            · rw [e] at h'; omega
            · exact ih (k + 1) (by omega) (by omega) (by omega) (by omega)
          · exact ⟨k, h1, by omega, h4, h'⟩
      exact step (l.length - 2) 1 (by omega) (by omega) f1 (by omega)
    obtain ⟨k, k1, k2, p, q⟩ := g
    have r := h k (by omega)
    unfold sideP at r
    rw [Nat.mod_eq_of_lt (by omega)] at r
    have T := hc.left k (by omega) 0 (by omega) (by omega) (by rw [Nat.mod_eq_of_lt (by omega)]; omega)
    rw [Nat.mod_eq_of_lt (by omega)] at T
    refine ⟨0, k, k + 1, by omega, by omega, by omega, turnP (nth l k) (nth l (k + 1)) (nth l 0), hturn (nth l k) (nth l (k + 1)) X Y W, -hturn (nth l 0) (nth l (k + 1)) X Y W, hturn (nth l 0) (nth l k) X Y W, T, r, by omega, p, ?_, ?_, ?_⟩
    all_goals generalize nth l 0 = a at *
    all_goals generalize nth l k = b at *
    all_goals generalize nth l (k + 1) = c at *
    · unfold turnP turnV hturn; grind
    · unfold turnP turnV hturn; grind
    · unfold turnP turnV hturn; grind
/-- a polygon whose corners another one has lies in it -/
theorem inH_within {l m : List Pt} (hl : GoValid l) (h : ∀ k, k < l.length → inside m (nth l k) = true) (hm : GoValid m) {X Y W : Int} (hx : InH l X Y W) : InH m X Y W := by
  obtain ⟨a, b, c, ha, hb, hc, K, r, s, t, hK, hr, hs, ht, e1, e2, e3⟩ := inH_corners hl hx
  have ia := inH_of_inside hm (h a ha)
  have ib := inH_of_inside hm (h b hb)
  have ic := inH_of_inside hm (h c hc)
  have i1 : InH m (r * (nth l a).x + s * (nth l b).x) (r * (nth l a).y + s * (nth l b).y) (r + s) := inH_mix (K := 1) (by omega) hr hs (by omega) (by omega) (by omega) ia ib
  exact inH_mix (s := 1) (t := t) hK (by omega) ht (by omega) (by omega) (by omega) i1 ic
/-- what reaches a polygon within another one reaches that one -/
theorem touch_within {c l m : List Pt} (hc : goValid c = true) (hl : goValid l = true) (hm : goValid m = true) (h : ∀ k, k < l.length → inside m (nth l k) = true) (ht : touchB c m = false) : touchB c l = false := by
  cases hb : touchB c l
  · rfl
  obtain ⟨X, Y, W, hW, h1, h2⟩ := point_touch (goValid_true hc) (goValid_true hl) ((touchB_iff (goValid_true hc) (goValid_true hl)).1 hb)
  have := (touchB_iff (goValid_true hc) (goValid_true hm)).2 (touch_point (goValid_true hc) (goValid_true hm) hW h1 (inH_within (goValid_true hl) h (goValid_true hm) h2))
  rw [this] at ht; cases ht
theorem touchB_symm {l m : List Pt} (hl : goValid l = true) (hm : goValid m = true) : touchB m l = touchB l m := by
  rw [Bool.eq_iff_iff, touchB_iff (goValid_true hm) (goValid_true hl), touchB_iff (goValid_true hl) (goValid_true hm)]
  exact ⟨Touch.symm, Touch.symm⟩
end Go.Proofs.Ytjjkmonfihomnaa
