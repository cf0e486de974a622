/- Plain: polygons that are moved as a whole. -/
import Derived.Test.YtjjkmonfihomnaaRocksOne
import Derived.Test.YtjjkmonfihomnaaTouchB
namespace Go.Proofs.Ytjjkmonfihomnaa

def mvP (b x : Pt) : Pt := ⟨x.x + b.x, x.y + b.y⟩
def mvL (b : Pt) (l : List Pt) : List Pt := l.map (mvP b)
def mvS (b : Pt) (s : Pt × Pt) : Pt × Pt := (mvP b s.1, mvP b s.2)
theorem mvL_len (b : Pt) (l : List Pt) : (mvL b l).length = l.length := by simp [mvL]
theorem nth_mvL (b : Pt) {l : List Pt} {k : Nat} (h : k < l.length) : nth (mvL b l) k = mvP b (nth l k) := by
  simp [mvL, nth, List.getD_eq_getElem?_getD, List.getElem?_eq_getElem h]
theorem turn_mv (b p q r : Pt) : turnP (mvP b p) (mvP b q) (mvP b r) = turnP p q r := by unfold turnP turnV mvP; grind
theorem side_mv (b : Pt) {l : List Pt} {k : Nat} (h : k < l.length) : sideP (mvL b l) k = mvS b (sideP l k) := by
  unfold sideP mvS
  rw [mvL_len, nth_mvL b h, nth_mvL b (Nat.mod_lt _ (by omega))]
theorem loTo_mv (b : Pt) {l : List Pt} (f : Pt → Int) (c : Int) (hf : ∀ x, f (mvP b x) = f x + c) (h1 : 1 ≤ l.length) : ∀ k, k ≤ l.length → loTo f (mvL b l) k = loTo f l k + c
  | 0, _ => by simp only [loTo]; rw [nth_mvL b (by omega), hf]
  | k + 1, h => by
    simp only [loTo]
    rw [loTo_mv b f c hf h1 k (by omega), nth_mvL b (by omega), hf]
    split <;> split <;> omega
theorem hiTo_mv (b : Pt) {l : List Pt} (f : Pt → Int) (c : Int) (hf : ∀ x, f (mvP b x) = f x + c) (h1 : 1 ≤ l.length) : ∀ k, k ≤ l.length → hiTo f (mvL b l) k = hiTo f l k + c
  | 0, _ => by simp only [hiTo]; rw [nth_mvL b (by omega), hf]
  | k + 1, h => by
    simp only [hiTo]
    rw [hiTo_mv b f c hf h1 k (by omega), nth_mvL b (by omega), hf]
    split <;> split <;> omega
theorem inside_mv (b : Pt) {l : List Pt} (h1 : 1 ≤ l.length) (x : Pt) : inside (mvL b l) (mvP b x) = inside l x := by
  have e1 : (boxL (mvL b l)).x = (boxL l).x + b.x := by have := loTo_mv b bxF1 b.x (fun _ => rfl) h1 l.length (Nat.le_refl _); simpa only [boxL, mvL_len] using this
  have e2 : (boxL (mvL b l)).y = (boxL l).y + b.y := by have := loTo_mv b bxF2 b.y (fun _ => rfl) h1 l.length (Nat.le_refl _); simpa only [boxL, mvL_len] using this
  have e3 : (boxH (mvL b l)).x = (boxH l).x + b.x := by have := hiTo_mv b bxF1 b.x (fun _ => rfl) h1 l.length (Nat.le_refl _); simpa only [boxH, mvL_len] using this
  have e4 : (boxH (mvL b l)).y = (boxH l).y + b.y := by have := hiTo_mv b bxF2 b.y (fun _ => rfl) h1 l.length (Nat.le_refl _); simpa only [boxH, mvL_len] using this
  unfold inside
  rw [mvL_len]
  by_cases h3 : l.length < 3
  · rw [if_pos h3, if_pos h3, e1, e2, e3, e4, nth_mvL b (by omega), nth_mvL b (by omega), turn_mv, Bool.eq_iff_iff]
    simp only [decide_eq_true_eq]
    show _ ∧ _ ≤ x.x + b.x ∧ x.x + b.x ≤ _ ∧ _ ≤ x.y + b.y ∧ x.y + b.y ≤ _ ↔ _
    constructor
    · rintro ⟨a, c, d, e, f⟩; exact ⟨a, by omega, by omega, by omega, by omega⟩
    · rintro ⟨a, c, d, e, f⟩; exact ⟨a, by omega, by omega, by omega, by omega⟩
  · rw [if_neg h3, if_neg h3, Bool.eq_iff_iff]
    simp only [decide_eq_true_eq]
    have key : ∀ i, i < l.length → turnP (sideP (mvL b l) i).1 (sideP (mvL b l) i).2 (mvP b x) = turnP (sideP l i).1 (sideP l i).2 x := fun i hi => by
      rw [side_mv b hi]; exact turn_mv b _ _ _
    exact ⟨fun h i hi => by rw [← key i hi]; exact h i hi, fun h i hi => by rw [key i hi]; exact h i hi⟩

theorem part_in {D p d : Int} (hd : 0 < d) (h0 : 0 ≤ p) (h1 : p ≤ d) : (D ≤ (D * p).fdiv d ∨ 0 ≤ (D * p).fdiv d) ∧ ((D * p).fdiv d ≤ 0 ∨ (D * p).fdiv d ≤ D) := by
  rw [Int.fdiv_eq_ediv_of_nonneg _ (Int.le_of_lt hd)]
  rcases Int.le_total 0 D with h | h
  · have a := Int.mul_nonneg h h0
    have b := Int.mul_le_mul_of_nonneg_left h1 h
    exact ⟨.inr (Int.le_ediv_of_mul_le hd (by omega)), .inr (Int.ediv_le_of_le_mul hd b)⟩
  · have a := Int.mul_nonneg (show 0 ≤ -D by omega) h0
    have b := Int.mul_le_mul_of_nonneg_left h1 (show 0 ≤ -D by omega)
    rw [Int.neg_mul] at a b
    rw [Int.neg_mul] at b
    exact ⟨.inl (Int.le_ediv_of_mul_le hd (by omega)), .inl (Int.ediv_le_of_le_mul hd (by omega))⟩
theorem part_in2 {D s t : Int} (h : crossB s t = true) : (D ≤ (D * s).fdiv (s - t) ∨ 0 ≤ (D * s).fdiv (s - t)) ∧ ((D * s).fdiv (s - t) ≤ 0 ∨ (D * s).fdiv (s - t) ≤ D) := by
  unfold crossB at h
  rw [decide_eq_true_eq] at h
  rcases h with h | h
  · have e : (D * s).fdiv (s - t) = (D * -s).fdiv (-(s - t)) := by rw [Int.mul_neg, Int.neg_fdiv_neg]
    rw [e]
    exact part_in (by omega) (by omega) (by omega)
  · exact part_in (by omega) (by omega) (by omega)
/-- the places of a frame lie in the box of the side's ends -/
theorem frLo_in {u v s t : Int} (h : crossB s t = true) : (u ≤ frLo u v s t ∨ v ≤ frLo u v s t) ∧ (frLo u v s t ≤ u ∨ frLo u v s t ≤ v) := by
  have := part_in2 (D := v - u) h
  unfold frLo
  omega
theorem frHi_in {u v s t : Int} (h : crossB s t = true) : (u ≤ frHi u v s t ∨ v ≤ frHi u v s t) ∧ (frHi u v s t ≤ u ∨ frHi u v s t ≤ v) := by
  have := part_in2 (D := -(v - u)) h
  rw [Int.neg_mul] at this
  unfold frHi
  omega
theorem place_iff {p : Pt} : placeP p = true ↔ -500000 ≤ p.x ∧ p.x ≤ 500000 ∧ -500000 ≤ p.y ∧ p.y ≤ 500000 := by simp [placeP, placeB]
theorem frameP_place {a b : Pt} {s t : Int} (h : crossB s t = true) (ha : placeP a = true) (hb : placeP b = true) {x : Pt} (hx : x ∈ frameP a b s t) : placeP x = true := by
  rw [place_iff] at *
  have h1 := frLo_in (u := a.x) (v := b.x) h
  have h2 := frHi_in (u := a.x) (v := b.x) h
  have h3 := frLo_in (u := a.y) (v := b.y) h
  have h4 := frHi_in (u := a.y) (v := b.y) h
  simp only [frameP, List.mem_cons, List.not_mem_nil, or_false] at hx
  rcases hx with rfl | rfl | rfl | rfl
  · show -500000 ≤ frLo _ _ _ _ ∧ frLo _ _ _ _ ≤ 500000 ∧ -500000 ≤ frLo _ _ _ _ ∧ frLo _ _ _ _ ≤ 500000
    omega
  · show -500000 ≤ frLo _ _ _ _ ∧ frLo _ _ _ _ ≤ 500000 ∧ -500000 ≤ frHi _ _ _ _ ∧ frHi _ _ _ _ ≤ 500000
    omega
  · show -500000 ≤ frHi _ _ _ _ ∧ frHi _ _ _ _ ≤ 500000 ∧ -500000 ≤ frLo _ _ _ _ ∧ frLo _ _ _ _ ≤ 500000
    omega
  · show -500000 ≤ frHi _ _ _ _ ∧ frHi _ _ _ _ ≤ 500000 ∧ -500000 ≤ frHi _ _ _ _ ∧ frHi _ _ _ _ ≤ 500000
    omega
theorem side_place {l : List Pt} (h : ∀ k, k < l.length → placeP (nth l k) = true) {i : Nat} (hi : i < l.length) : placeP (sideP l i).1 = true ∧ placeP (sideP l i).2 = true := ⟨h i hi, h _ (Nat.mod_lt _ (by omega))⟩
/-- the frames of crossings are places -/
theorem crossP_place {l m : List Pt} (hm : ∀ k, k < m.length → placeP (nth m k) = true) {x : Pt} (hx : x ∈ crossP l m) : placeP x = true := by
  unfold crossP crossL rowS sidesL at hx
  simp only [List.mem_flatMap, mem_upto] at hx
  obtain ⟨S, ⟨i, hi, rfl⟩, T, ⟨j, hj, rfl⟩, hx⟩ := hx
  unfold crossST at hx
  split at hx
  · rename_i h
    simp only [Bool.and_eq_true] at h
    exact frameP_place h.1 (side_place hm hj).1 (side_place hm hj).2 hx
  · cases hx
theorem frame_mv (b p q : Pt) (s t : Int) : frameP (mvP b p) (mvP b q) s t = mvL b (frameP p q s t) := by
  have lo : ∀ u v c, frLo (u + c) (v + c) s t = frLo u v s t + c := fun u v c => by unfold frLo; rw [show v + c - (u + c) = v - u by omega]; omega
  have hi : ∀ u v c, frHi (u + c) (v + c) s t = frHi u v s t + c := fun u v c => by unfold frHi; rw [show v + c - (u + c) = v - u by omega]; omega
  simp only [frameP, mvL, mvP, List.map_cons, List.map_nil, lo, hi]
theorem crossST_mv (b : Pt) (S T : Pt × Pt) : crossST (mvS b S) (mvS b T) = mvL b (crossST S T) := by
  unfold crossST mvS
  simp only [turn_mv, frame_mv]
  split
  · rfl
  · rfl
theorem sidesL_mv (b : Pt) (l : List Pt) : sidesL (mvL b l) = (sidesL l).map (mvS b) := by
  unfold sidesL upto
  rw [mvL_len, List.map_map]
  refine List.map_congr_left fun i hi => ?_
  exact side_mv b (List.mem_range.1 hi)
theorem crossP_mv (b : Pt) (l m : List Pt) : crossP (mvL b l) (mvL b m) = mvL b (crossP l m) := by
  unfold crossP crossL rowS
  rw [sidesL_mv, sidesL_mv]
  simp only [List.flatMap_map, crossST_mv, mvL, List.map_flatMap]
theorem cornersTo_mv (b : Pt) {l m : List Pt} (hm : goValid m = true) (hm' : goValid (mvL b m) = true) (hl : ∀ x, x ∈ l → placeP x = true) (hl' : ∀ x, x ∈ l → placeP (mvP b x) = true) : ∀ k, k ≤ l.length → cornersTo (mvL b l) (mvL b m) k = mvL b (cornersTo l m k)
  | 0, _ => rfl
  | k + 1, h => by
    have ih := cornersTo_mv b hm hm' hl hl' k (by omega)
    have hk : nth l k ∈ l := nth_mem (by omega)
    simp only [cornersTo]
    rw [ih, nth_mvL b (by omega)]
    have e : hasB (mvL b m) (mvP b (nth l k)) = hasB m (nth l k) := by
      unfold hasB
      rw [hm, hm', hl _ hk, hl' _ hk, inside_mv b (goValid_true hm).1]
    rw [e]
    split
    · simp [mvL]
    · rfl
theorem cornersP_mv (b : Pt) {l m : List Pt} (hm : goValid m = true) (hm' : goValid (mvL b m) = true) (hl : ∀ x, x ∈ l → placeP x = true) (hl' : ∀ x, x ∈ l → placeP (mvP b x) = true) : cornersP (mvL b l) (mvL b m) = mvL b (cornersP l m) := by
  unfold cornersP
  rw [mvL_len]
  exact cornersTo_mv b hm hm' hl hl' _ (Nat.le_refl _)
theorem cmp_mv (b p q : Pt) : cmpP (mvP b p) (mvP b q) = cmpP p q := by
  have c : ∀ u v w : Int, cmpI (u + w) (v + w) = cmpI u v := fun u v w => by unfold cmpI; repeat' split
                                                                             all_goals omega
  simp only [cmpP, cmpV, mvP, c]
theorem minTo_mv (b : Pt) {l : List Pt} : ∀ k, k < l.length → minTo (mvL b l) k = mvP b (minTo l k)
  | 0, h => nth_mvL b h
  | k + 1, h => by
    simp only [minTo]
    rw [minTo_mv b k (by omega), nth_mvL b h, cmp_mv]
    split <;> rfl
theorem places_of {l : List Pt} (h : goValid l = true) : ∀ x, x ∈ l → placeP x = true := fun x hx => by
  obtain ⟨k, hk, rfl⟩ := mem_nth hx
  exact ((goValid_true h).2.2.1 k hk).1
theorem places_mv {b : Pt} {l : List Pt} (h : goValid (mvL b l) = true) : ∀ x, x ∈ l → placeP (mvP b x) = true := fun _ hx => places_of h _ (List.mem_map_of_mem hx)
theorem nth_of_place {l : List Pt} (h : ∀ x, x ∈ l → placeP x = true) : ∀ k, k < l.length → placeP (nth l k) = true := fun _ hk => h _ (nth_mem hk)
section
variable {b : Pt} {l m : List Pt} (hl : goValid l = true) (hm : goValid m = true) (hl' : goValid (mvL b l) = true) (hm' : goValid (mvL b m) = true)
include hl hm hl' hm'
theorem comL_mv (k : Nat) : comL (mvL b l) (mvL b m) k = mvL b (comL l m k) := by
  unfold comL
  split
  · exact cornersP_mv b hm hm' (places_of hl) (places_mv hl')
  · split
    · exact cornersP_mv b hl hl' (places_of hm) (places_mv hm')
    · have c1 : ∀ x, x ∈ crossP l m → placeP x = true := fun x hx => crossP_place (nth_of_place (places_of hm)) hx
      have c2 : ∀ x, x ∈ crossP l m → placeP (mvP b x) = true := fun x hx =>
        crossP_place (l := mvL b l) (m := mvL b m) (nth_of_place (places_of hm')) (by rw [crossP_mv]; exact List.mem_map_of_mem hx)
      have sub : ∀ x, x ∈ cornersP (crossP l m) l → x ∈ crossP l m := fun x hx => by
        obtain ⟨j, hj, rfl, _⟩ := (mem_cornersTo _).1 hx
        exact nth_mem hj
      rw [crossP_mv, cornersP_mv b hl hl' c1 c2]
      exact cornersP_mv b hm hm' (fun x hx => c1 x (sub x hx)) (fun x hx => c2 x (sub x hx))
theorem shared_mv : (sharedP (mvL b l) (mvL b m)).length = (sharedP l m).length := by
  unfold sharedP
  rw [cornersP_mv b hm hm' (places_of hl) (places_mv hl'), cornersP_mv b hl hl' (places_of hm) (places_mv hm'), crossP_mv]
  simp only [List.length_append, mvL_len]
theorem touch_mv : touchB (mvL b l) (mvL b m) = touchB l m := by
  unfold touchB
  rw [hl, hm, hl', hm', shared_mv hl hm hl' hm']
theorem comX_mv : comX (mvL b l) (mvL b m) = (comX l m).map (mvP b) := by
  unfold comX
  simp only [comL_mv hl hm hl' hm', mvL_len]
  split
  · rename_i h; rw [minTo_mv b _ (by omega)]; rfl
  · split
    · rename_i h; rw [minTo_mv b _ (by omega)]; rfl
    · split
      · rename_i h; rw [minTo_mv b _ (by omega)]; rfl
      · rfl
theorem hit_mv : hitB (mvL b l) (mvL b m) = hitB l m ∧ hitE (mvL b l) (mvL b m) = hitE l m ∧ (hitB l m = true → hitX (mvL b l) (mvL b m) = hitX l m + b.x ∧ hitY (mvL b l) (mvL b m) = hitY l m + b.y) := by
  unfold hitB hitE hitX hitY
  rw [hl, hm, hl', hm', comX_mv hl hm hl' hm', touch_mv hl hm hl' hm']
  simp only [Option.isSome_map]
  refine ⟨trivial, trivial, fun h => ?_⟩
  cases hc : comX l m with
  | none => rw [hc] at h; simp at h
  | some x => exact ⟨rfl, rfl⟩
end
def mvR (b : Pt) (ls : List (List Pt)) : List (List Pt) := ls.map (mvL b)
theorem mvR_len (b : Pt) (ls : List (List Pt)) : (mvR b ls).length = ls.length := by simp [mvR]
theorem rk_mvR (b : Pt) {ls : List (List Pt)} {j : Nat} (h : j < ls.length) : rk (mvR b ls) j = mvL b (rk ls j) := by
  simp [mvR, rk, List.getD_eq_getElem?_getD, List.getElem?_eq_getElem h]
theorem hitTo_mv {b : Pt} {c : List Pt} {ls : List (List Pt)} (hc : goValid c = true) (hc' : goValid (mvL b c) = true) (h : ∀ j, j < ls.length → goValid (rk ls j) = true) (h' : ∀ j, j < ls.length → goValid (rk (mvR b ls) j) = true) :
    ∀ k, k ≤ ls.length → hitTo (mvL b c) (mvR b ls) k = hitTo c ls k
  | 0, _ => rfl
  | k + 1, hk => by
    have g := h' k (by omega)
    rw [rk_mvR b (by omega)] at g
    simp only [hitTo]
    rw [hitTo_mv hc hc' h h' k (by omega), rk_mvR b (by omega), touch_mv hc (h k (by omega)) hc' g]
end Go.Proofs.Ytjjkmonfihomnaa
