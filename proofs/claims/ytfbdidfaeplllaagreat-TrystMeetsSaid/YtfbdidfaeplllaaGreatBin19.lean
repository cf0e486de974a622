/- Lists of points in slices of the call's own. | Lists of structs: a slice value read row by row; appended to an own list in a box. -/
import Derived.OwnWalk
import Derived.Laws.OwnMore
import Derived.Test.YtfbdidfaeplllaaGreatBin03
import Derived.Test.YtfbdidfaeplllaaGreatBin07
namespace Go.Proofs.YtfbdidfaeplllaaGreat
open Go.RowKit

theorem ptInfo : (Tryz.prog.info? 31).map (fun i => (i.zero, i.size, i.bytes)) = some (some (.agg #[.int .i64 0, .int .i64 0]), 2, 16) := by kernel_rfl
/-- the cells of points, one behind the other -/
def ptCells (l : List Pt) : List Value := l.flatMap fun a => [.int .i64 a.x, .int .i64 a.y]
theorem ptCells_len : ∀ l : List Pt, (ptCells l).length = l.length * 2
  | [] => rfl
  | a :: l => by
    have := ptCells_len l
    simp only [ptCells, List.flatMap_cons, List.length_append, List.length_cons, List.length_nil] at *
    omega
theorem ptCells_append (l m : List Pt) : ptCells (l ++ m) = ptCells l ++ ptCells m := by simp [ptCells]
theorem ptCells_one : ∀ l : List Pt, ∀ u ∈ ptCells l, u.oneCell' = true
  | [], u, h => by simp [ptCells] at h
  | a :: l, u, h => by
    simp only [ptCells, List.flatMap_cons, List.mem_append] at h
    rcases h with h | h
    · simp only [List.mem_cons, List.not_mem_nil, or_false] at h
      rcases h with rfl | rfl <;> rfl
    · exact ptCells_one l u h
theorem ptCells_get : ∀ (l : List Pt) (j : Nat), j < l.length → (ptCells l)[j * 2]? = some (.int .i64 (nth l j).x) ∧ (ptCells l)[j * 2 + 1]? = some (.int .i64 (nth l j).y)
  | [], j, h => by simp at h
  | a :: l, 0, h => by simp [ptCells, nth]
  | a :: l, j + 1, h => by
    have ih := ptCells_get l j (by simpa using h)
    have e : ∀ c, (ptCells (a :: l))[(j + 1) * 2 + c]? = (ptCells l)[j * 2 + c]? := fun c => by
      simp only [ptCells, List.flatMap_cons]
      rw [List.getElem?_append_right (by simp; omega)]
      congr 1
      simp; omega
    have e0 := e 0
    simp only [Nat.add_zero] at e0
    have w : nth (a :: l) (j + 1) = nth l j := by simp [nth]
    rw [e0, e 1, w]
    exact ih
theorem pt_add {W : World} {b o : Nat} {l : List Pt} (h : ∀ j, j < l.length → W.cell? ⟨b, o + j * 2, none⟩ = some (.int .i64 (nth l j).x) ∧ W.cell? ⟨b, o + j * 2 + 1, none⟩ = some (.int .i64 (nth l j).y)) :
    ∀ j u, (ptCells l)[j]? = some u → W.cell? ((⟨b, o, none⟩ : Addr).add j) = some u := by
  intro j u hu
  have hlt : j < (ptCells l).length := (List.getElem?_eq_some_iff.1 hu).1
  rw [ptCells_len] at hlt
  have e : (⟨b, o, none⟩ : Addr).add j = ⟨b, o + j, none⟩ := by unfold Addr.add; split <;> simp_all
  rw [e]
  obtain ⟨q, r, hr, rfl⟩ : ∃ q r, r < 2 ∧ j = q * 2 + r := ⟨j / 2, j % 2, Nat.mod_lt _ (by omega), by omega⟩
  have hq : q < l.length := by omega
  obtain ⟨f0, f1⟩ := ptCells_get l q hq
  obtain ⟨g0, g1⟩ := h q hq
  rw [← Nat.add_assoc]
  match r, hr with
  | 0, _ => rw [Nat.add_zero] at hu ⊢; rw [f0] at hu; rw [g0]; exact hu
  | 1, _ => rw [f1] at hu; rw [g1]; exact hu
theorem prow_block {W W' : World} {base n size : Nat} {e : TypeId} {v : Value} {xs : List Value} (h : W.ownsRow base e size v n xs) (hb : ∀ g, v.ownBlock = some g → W'.heap[g]? = W.heap[g]?) : W'.ownsRow base e size v n xs := by
  rcases h.2 with h' | ⟨g', cap', cur, h', r1, r2, r3⟩
  · exact ⟨h.1, .inl h'⟩
  · subst h'
    exact ⟨h.1, .inr ⟨g', cap', cur, rfl, r1, (hb g' rfl).trans r2, r3⟩⟩
/-- a row of the call's own lies as it lay, if all older blocks do -/
theorem prow_below {W W' : World} {base n size : Nat} {e : TypeId} {v : Value} {xs : List Value} (h : W.ownsRow base e size v n xs) (hb : Below W.heap.size W W') : W'.ownsRow base e size v n xs :=
  prow_block h fun g hg => hb.block g (h.lt g hg).2
/-- a slice of the call's own reads as its points -/
theorem PtsAt.own {W : World} {base n : Nat} {v : Value} {l : List Pt} (h : W.ownsRow base 31 2 v n (ptCells l)) (hl : l.length ≤ 70368744177663) : PtsAt W.heap.size W v l := by
  have hn : l.length = n := by have := h.1; rw [ptCells_len] at this; omega
  refine ⟨hl, ?_⟩
  rcases h.2 with ⟨rfl, h0⟩ | ⟨g, cap, cur, rfl, _, hg, hc, _⟩
  · exact ⟨none, 0, by rw [hn, h0], .inl (List.eq_nil_of_length_eq_zero (by omega))⟩
  · refine ⟨some ⟨g, 0, none⟩, cap - n, by rw [hn, show n + (cap - n) = cap by omega], .inr ⟨g, 0, rfl, (Array.getElem?_eq_some_iff.1 hg).1, fun j hj => ?_⟩⟩
    obtain ⟨f0, f1⟩ := ptCells_get l j hj
    rw [Nat.zero_add]
    exact ⟨(h.cellAt (j * 2) (by omega)).trans f0, (h.cellAt (j * 2 + 1) (by omega)).trans f1⟩
theorem PtsAt.nil (n0 : Nat) (W : World) : PtsAt n0 W (.slice none 0 0) [] := ⟨by simp, none, 0, rfl, .inl rfl⟩
theorem PtsAt.len {n0 : Nat} {W : World} {v : Value} {l : List Pt} (h : PtsAt n0 W v l) : ∃ a cap, v = .slice a l.length (l.length + cap) := by
  obtain ⟨_, a, cap, e, _⟩ := h
  exact ⟨a, cap, e⟩
/-- a list of points is handed back -/
def PtsQ (l : List Pt) (w : World) (e : Ending) (w' : World) : Prop := ∃ v, e = .returned v ∧ PtsAt w'.heap.size w' v l ∧ Below w.heap.size w w'
end Go.Proofs.YtfbdidfaeplllaaGreat

namespace Go.Proofs.YtfbdidfaeplllaaGreat
open Go.RowKit

/-- a slice value reads as a list of rows, each of size cells -/
def RowAt (size n0 : Nat) (W : World) (v : Value) (rows : List (List Value)) : Prop :=
  rows.length ≤ 70368744177663 ∧ ∃ a cap, v = .slice a rows.length (rows.length + cap) ∧ (rows = [] ∨ ∃ b o, a = some ⟨b, o, none⟩ ∧ b < n0 ∧
    ∀ j r, rows[j]? = some r → ∀ i u, r[i]? = some u → W.cell? ⟨b, o + j * size + i, none⟩ = some u)
theorem RowAt.below {size n0 : Nat} {A B : World} {v : Value} {rows : List (List Value)} (hp : RowAt size n0 A v rows) (h : Below n0 A B) : RowAt size n0 B v rows := by
  obtain ⟨hl, a, cap, e, hc⟩ := hp
  refine ⟨hl, a, cap, e, hc.imp id ?_⟩
  rintro ⟨b, o, e1, hb, hc⟩
  exact ⟨b, o, e1, hb, fun j r hj i u hu => (h.cell (p := ⟨b, o + j * size + i, none⟩) hb).trans (hc j r hj i u hu)⟩
theorem RowAt.mono {size n0 n1 : Nat} {W : World} {v : Value} {rows : List (List Value)} (hp : RowAt size n0 W v rows) (h : n0 ≤ n1) : RowAt size n1 W v rows := by
  obtain ⟨hl, a, cap, e, hc⟩ := hp
  refine ⟨hl, a, cap, e, hc.imp id ?_⟩
  rintro ⟨b, o, e1, hb, hc⟩
  exact ⟨b, o, e1, by omega, hc⟩
theorem RowAt.nil (size n0 : Nat) (W : World) : RowAt size n0 W (.slice none 0 0) [] := ⟨by simp, none, 0, rfl, .inl rfl⟩
theorem RowAt.cells {size n0 : Nat} {W : World} {v : Value} {rows : List (List Value)} (hp : RowAt size n0 W v rows) (h0 : 0 < rows.length) : ∃ b o cap, v = .slice (some ⟨b, o, none⟩) rows.length (rows.length + cap) ∧ b < n0 ∧
    ∀ j r, rows[j]? = some r → ∀ i u, r[i]? = some u → W.cell? ⟨b, o + j * size + i, none⟩ = some u := by
  obtain ⟨_, a, cap, e, hc⟩ := hp
  rcases hc with rfl | ⟨b, o, rfl, hb, hc⟩
  · simp at h0
  · exact ⟨b, o, cap, e, hb, hc⟩
theorem flat_len {size : Nat} : ∀ {rows : List (List Value)}, (∀ r ∈ rows, r.length = size) → rows.flatten.length = rows.length * size
  | [], _ => by simp
  | r :: rows, h => by
    have := flat_len (rows := rows) (fun x hx => h x (by simp [hx]))
    have := h r (by simp)
    simp only [List.flatten_cons, List.length_append, List.length_cons]
    rw [Nat.succ_mul]; omega
theorem flat_get {size : Nat} : ∀ {rows : List (List Value)}, (∀ r ∈ rows, r.length = size) → ∀ j r, rows[j]? = some r → ∀ i u, r[i]? = some u → rows.flatten[j * size + i]? = some u
  | [], _, j, r, hj, _, _, _ => by simp at hj
  | r0 :: rows, h, 0, r, hj, i, u, hu => by
    simp only [List.getElem?_cons_zero, Option.some.injEq] at hj
    subst hj
    have hi : i < r0.length := (List.getElem?_eq_some_iff.1 hu).1
    simp only [List.flatten_cons, Nat.zero_mul, Nat.zero_add]
    rw [List.getElem?_append_left hi]; exact hu
  | r0 :: rows, h, j + 1, r, hj, i, u, hu => by
    have := flat_get (rows := rows) (fun x hx => h x (by simp [hx])) j r (by simpa using hj) i u hu
    have h0 := h r0 (by simp)
    simp only [List.flatten_cons]
    rw [List.getElem?_append_right (by rw [h0, Nat.succ_mul]; omega), h0, show (j + 1) * size + i - size = j * size + i by rw [Nat.succ_mul]; omega]
    exact this
theorem RowAt.own {W : World} {base n size : Nat} {t : TypeId} {v : Value} {rows : List (List Value)} (h : W.ownsRow base t size v n rows.flatten) (hs : 0 < size) (hr : ∀ r ∈ rows, r.length = size) (hl : rows.length ≤ 70368744177663) : RowAt size W.heap.size W v rows := by
  have hn : rows.length = n := by have := h.1; rw [flat_len hr] at this; exact Nat.eq_of_mul_eq_mul_right hs this
  refine ⟨hl, ?_⟩
  rcases h.2 with ⟨rfl, h0⟩ | ⟨g, cap, cur, rfl, _, hg, hc, _⟩
  · exact ⟨none, 0, by rw [hn, h0], .inl (List.eq_nil_of_length_eq_zero (by omega))⟩
  · refine ⟨some ⟨g, 0, none⟩, cap - n, by rw [hn, show n + (cap - n) = cap by omega], .inr ⟨g, 0, rfl, (Array.getElem?_eq_some_iff.1 hg).1, fun j r hj i u hu => ?_⟩⟩
    have f := flat_get hr j r hj i u hu
    rw [Nat.zero_add]
    exact (h.cellAt (j * size + i) (by rw [← h.1]; exact (List.getElem?_eq_some_iff.1 f).1)).trans f
/-- a literal's row -/
theorem RowAt.lit {W : World} {B size : Nat} {t : TypeId} {rows : List (List Value)} (h : Has W B rows.flatten.toArray t) (hr : ∀ r ∈ rows, r.length = size) (hl : rows.length ≤ 70368744177663) : RowAt size W.heap.size W (.slice (some ⟨B, 0, none⟩) rows.length rows.length) rows :=
  ⟨hl, some ⟨B, 0, none⟩, 0, rfl, .inr ⟨B, 0, rfl, h.lt, fun j r hj i u hu => by
    have f := flat_get hr j r hj i u hu
    rw [Nat.zero_add]
    exact h.cell (by simpa using f)⟩⟩
/-- behind 'out = append(out, x)', x of size cells: what a body of a range owes -/
theorem own_appendS {W w1 : World} {base Bo m0 size : Nat} {t e : TypeId} {v v' : Value} {k m : Nat} {xs ys : List Value} {tmp : Obj}
    (hv : Boxed W Bo t v) (hrow : W.ownsRow base e size v k xs) (hBo : Bo < base) (hbase : base ≤ W.heap.size) (hm : m0 ≤ Bo)
    (hown' : w1.ownsRow base e size v' m ys) (hgrow : (W.alloc tmp).grownBy w1 v.ownBlock) :
    Boxed w1 Bo t v ∧ Boxed (w1.setCell ⟨Bo, 0, none⟩ v') Bo t v' ∧ (w1.setCell ⟨Bo, 0, none⟩ v').ownsRow base e size v' m ys ∧ KeepsOthers W (w1.setCell ⟨Bo, 0, none⟩ v') ∧ Below m0 W (w1.setCell ⟨Bo, 0, none⟩ v') ∧
      W.heap.size ≤ (w1.setCell ⟨Bo, 0, none⟩ v').heap.size ∧ (∀ b, b < base → b ≠ Bo → (w1.setCell ⟨Bo, 0, none⟩ v').heap[b]? = W.heap[b]?) := by
  have hne : ∀ {X : World} {u : Value} {n : Nat} {zs : List Value}, X.ownsRow base e size u n zs → ∀ b, b < base → some b ≠ u.ownBlock := fun h b hb e' => by have := (h.lt b e'.symm).1; omega
  have hv1 : Boxed w1 Bo t v := (hv.alloc tmp).kept hgrow (hne hrow Bo hBo)
  have hsz : W.heap.size ≤ w1.heap.size := Nat.le_trans (by simp) hgrow.size
  have hb0 : Below base W w1 := ((Below.refl base W).alloc hbase tmp).grown hgrow (by simp; omega) (fun j ej => (hrow.lt j ej).1)
  refine ⟨hv1, hv1.set v', hown'.kept (grownBy_setCell' w1 Bo v') ?_, ?_, (hb0.mono (by omega)).setCell (p := ⟨Bo, 0, none⟩) hm v', by simpa [World.setCell] using hsz, fun b hb hbo => ?_⟩
  · exact .inr (fun e' => hne hown' Bo hBo e'.symm)
  · refine ((KeepsOthers.alloc W tmp).trans (KeepsOthers.of_grownBy hgrow fun j o ej hj => ?_)).trans (KeepsOthers.setCell _ _ _)
    rcases (hrow.alloc tmp).2 with ⟨rfl, _⟩ | ⟨g, cap, cur, rfl, _, hgb, _⟩
    · simp [Value.ownBlock] at ej
    · obtain rfl : g = j := by simpa [Value.ownBlock] using ej
      rw [hgb] at hj; cases hj; rfl
  · exact (Below.heap_setCell w1 ⟨Bo, 0, none⟩ v' b hbo).trans (hb0.block b hb)
end Go.Proofs.YtfbdidfaeplllaaGreat
