/- Plain: what Has, Common, First and Hit say of one another. -/
import Derived.Test.YtjjkmonfihomnaaRocks
namespace Go.Proofs.Ytjjkmonfihomnaa

/-- a polygon's corners, by evaluation -/
def validC (l : List Pt) : Bool :=
  decide (1 ≤ l.length ∧ l.length ≤ 64) && (List.range l.length).all (fun k => placeP (nth l k) && (decide (k = 0) || decide (cmpP (nth l 0) (nth l k) < 0))) &&
    (decide (l.length < 3) || (List.range l.length).all (fun i => (List.range l.length).all (fun k => decide (nth l k = (sideP l i).1) || decide (nth l k = (sideP l i).2) || decide (0 < turnP (sideP l i).1 (sideP l i).2 (nth l k)))))
theorem validC_iff (l : List Pt) : validC l = true ↔ GoValid l := by
  simp only [validC, Bool.and_eq_true, Bool.or_eq_true, decide_eq_true_eq, List.all_eq_true, List.mem_range]
  constructor
  · rintro ⟨⟨⟨h1, h2⟩, h3⟩, h4⟩
    refine ⟨h1, h2, fun k hk => ⟨(h3 k hk).1, fun h0 => ?_⟩, fun hn i hi k hk e1 e2 => ?_⟩
    · rcases (h3 k hk).2 with h | h
      · omega
      · exact h
    · rcases h4 with h | h
      · omega
      · rcases h i hi k hk with (h | h) | h
        · exact absurd h e1
        · exact absurd h e2
        · exact h
  · rintro ⟨h1, h2, h3, h4⟩
    refine ⟨⟨⟨h1, h2⟩, fun k hk => ⟨(h3 k hk).1, ?_⟩⟩, ?_⟩
    · rcases Nat.eq_zero_or_pos k with h | h
      · exact .inl h
      · exact .inr ((h3 k hk).2 h)
    · rcases Nat.lt_or_ge l.length 3 with h | h
      · exact .inl h
      · refine .inr fun i hi k hk => ?_
        by_cases e1 : nth l k = (sideP l i).1
        · exact .inl (.inl e1)
        · by_cases e2 : nth l k = (sideP l i).2
          · exact .inl (.inr e2)
          · exact .inr (h4 h i hi k hk e1 e2)
theorem goValid_eq (l : List Pt) : goValid l = validC l := by
  cases h : validC l
  · have : ¬ GoValid l := fun h2 => by rw [(validC_iff l).2 h2] at h; cases h
    simpa [goValid] using this
  · have := (validC_iff l).1 h
    simpa [goValid] using this
theorem goValid_true {l : List Pt} (h : goValid l = true) : GoValid l := by simpa [goValid] using h

theorem loTo_le (f : Pt → Int) (l : List Pt) : ∀ k, (∀ j, j < k → loTo f l k ≤ f (nth l j)) ∧ loTo f l k ≤ f (nth l 0)
  | 0 => ⟨fun j h => by omega, Int.le_refl _⟩
  | k + 1 => by
    have ih := loTo_le f l k
    simp only [loTo]
    constructor
    · intro j hj
      by_cases e : j = k
      · subst e; split <;> omega
      · have := ih.1 j (by omega); split <;> omega
    · have := ih.2; split <;> omega
theorem hiTo_ge (f : Pt → Int) (l : List Pt) : ∀ k, (∀ j, j < k → f (nth l j) ≤ hiTo f l k) ∧ f (nth l 0) ≤ hiTo f l k
  | 0 => ⟨fun j h => by omega, Int.le_refl _⟩
  | k + 1 => by
    have ih := hiTo_ge f l k
    simp only [hiTo]
    constructor
    · intro j hj
      by_cases e : j = k
      · subst e; split <;> omega
      · have := ih.1 j (by omega); split <;> omega
    · have := ih.2; split <;> omega
/-- a polygon has its corners -/
theorem inside_corner {l : List Pt} (h : GoValid l) {k : Nat} (hk : k < l.length) : inside l (nth l k) = true := by
  unfold inside
  by_cases h3 : l.length < 3
  · rw [if_pos h3, decide_eq_true_eq]
    refine ⟨?_, (loTo_le bxF1 l l.length).1 k hk, (hiTo_ge bxF1 l l.length).1 k hk, (loTo_le bxF2 l l.length).1 k hk, (hiTo_ge bxF2 l l.length).1 k hk⟩
    rcases (show k = 0 ∨ k = l.length - 1 by omega) with e | e
    · rw [e]; unfold turnP turnV; grind
    · rw [e]; unfold turnP turnV; grind
  · rw [if_neg h3, decide_eq_true_eq]
    intro i hi
    by_cases e1 : nth l k = (sideP l i).1
    · rw [e1]; unfold turnP turnV; grind
    · by_cases e2 : nth l k = (sideP l i).2
      · rw [e2]; unfold turnP turnV; grind
      · have := h.2.2.2 (by omega) i hi k hk e1 e2; omega
theorem hasB_corner {l : List Pt} (h : goValid l = true) {k : Nat} (hk : k < l.length) : hasB l (nth l k) = true := by
  have g := goValid_true h
  simp only [hasB, h, (g.2.2.1 k hk).1, inside_corner g hk, Bool.and_true]
theorem mem_nth {l : List Pt} {x : Pt} (h : x ∈ l) : ∃ k, k < l.length ∧ nth l k = x := by
  obtain ⟨k, hk, e⟩ := List.getElem_of_mem h
  exact ⟨k, hk, by simp [nth, List.getD, List.getElem?_eq_getElem hk, e]⟩
theorem nth_mem {l : List Pt} {k : Nat} (hk : k < l.length) : nth l k ∈ l := by simp [nth, List.getD, List.getElem?_eq_getElem hk]
theorem minTo_mem {l : List Pt} : ∀ k, k < l.length → minTo l k ∈ l
  | 0, h => nth_mem h
  | k + 1, h => by
    have ih := minTo_mem k (show k < l.length by omega)
    simp only [minTo]
    split
    · exact nth_mem h
    · exact ih
theorem comL_in {l m : List Pt} (hl : goValid l = true) (hm : goValid m = true) {x : Pt} : ∀ k, x ∈ comL l m k → hasB l x = true ∧ hasB m x = true
  | 0, h => by
    obtain ⟨j, hj, e, hb⟩ := (mem_cornersTo _).1 (show x ∈ cornersTo l m l.length from h)
    rw [← e] at hb ⊢
    exact ⟨hasB_corner hl hj, hb⟩
  | 1, h => by
    obtain ⟨j, hj, e, hb⟩ := (mem_cornersTo _).1 (show x ∈ cornersTo m l m.length from h)
    rw [← e] at hb ⊢
    exact ⟨hb, hasB_corner hm hj⟩
  | k + 2, h => by
    have h' : x ∈ cornersP (cornersP (crossP l m) l) m := by
      unfold comL at h
      rwa [if_neg (by omega), if_neg (by omega)] at h
    obtain ⟨j, hj, e, hb⟩ := (mem_cornersTo _).1 (show x ∈ cornersTo (cornersP (crossP l m) l) m _ from h')
    have hx : x ∈ cornersTo (crossP l m) l (crossP l m).length := by rw [← e]; exact nth_mem hj
    obtain ⟨_, _, _, hb2⟩ := (mem_cornersTo _).1 hx
    exact ⟨hb2, hb⟩
/-- the place that is found lies in both -/
theorem comX_in {l m : List Pt} (hl : goValid l = true) (hm : goValid m = true) {x : Pt} (h : comX l m = some x) : hasB l x = true ∧ hasB m x = true := by
  unfold comX at h
  split at h
  · cases h; exact comL_in hl hm 0 (minTo_mem _ (by omega))
  · split at h
    · cases h; exact comL_in hl hm 1 (minTo_mem _ (by omega))
    · split at h
      · cases h; exact comL_in hl hm 2 (minTo_mem _ (by omega))
      · cases h
theorem cornersP_nil (m : List Pt) : cornersP [] m = [] := rfl
/-- polygons that are apart have no place in common -/
theorem comX_apart {l m : List Pt} (h : (sharedP l m).length = 0) : comX l m = none := by
  have h' : sharedP l m = [] := List.eq_nil_of_length_eq_zero h
  unfold sharedP at h'
  simp only [List.append_eq_nil_iff] at h'
  obtain ⟨⟨h1, h2⟩, h3⟩ := h'
  refine comX_none fun j hj => ?_
  match j, hj with
  | 0, _ => show (cornersP l m).length = 0; rw [h1]; rfl
  | 1, _ => show (cornersP m l).length = 0; rw [h2]; rfl
  | 2, _ => show (cornersP (cornersP (crossP l m) l) m).length = 0; rw [h3, cornersP_nil, cornersP_nil]; rfl
theorem touch_of_com {l m : List Pt} (hl : goValid l = true) (hm : goValid m = true) (h : (comX l m).isSome = true) : touchB l m = true := by
  unfold touchB
  rw [hl, hm]
  by_cases h0 : (sharedP l m).length = 0
  · rw [comX_apart h0] at h; cases h
  · simpa using h0
theorem first_one {c p : List Pt} (hc : goValid c = true) (hp : goValid p = true) : firB c [p] = touchB c p ∧ firE c [p] = 0 := by
  have hok : okRocks c [p] = true := by
    unfold okRocks
    rw [hc, Bool.true_and]
    refine decide_eq_true fun j hj => ?_
    obtain rfl : j = 0 := by simpa using hj
    exact hp
  unfold firB firE
  simp only [List.length_singleton, hok, and_true, if_true, show (1 : Nat) ≤ 100 by omega]
  show (if (none : Option Nat).isSome = true then none else if touchB c p = true then some 0 else none : Option Nat).isSome = touchB c p
  cases touchB c p <;> rfl

/-- corners by evaluation, where the other polygon is one -/
noncomputable def cornersC (l m : List Pt) : Nat → List Pt
  | 0 => []
  | k + 1 => if (placeP (nth l k) && inside m (nth l k)) = true then cornersC l m k ++ [nth l k] else cornersC l m k
theorem cornersC_eq {l m : List Pt} (hm : goValid m = true) : ∀ k, cornersTo l m k = cornersC l m k
  | 0 => rfl
  | k + 1 => by simp only [cornersTo, cornersC, hasB, hm, Bool.true_and, cornersC_eq hm k]
end Go.Proofs.Ytjjkmonfihomnaa
