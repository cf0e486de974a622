/- slices.SortFunc at points, in a row of the call's own. -/
import Derived.Test.YtoekcefhphcjjaaBin02
import Derived.Test.YtoekcefhphcjjaaBin19
namespace Go.Proofs.Ytoekcefhphcjjaa
open Go.RowKit Go.Shelf
attribute [local irreducible] wpQuiet

instance : Inhabited Pt := ⟨⟨0, 0⟩⟩
def encPt (p : Pt) : List Value := [.int .i64 p.x, .int .i64 p.y]
theorem below_grow {w w' : World} (h : Below w.heap.size w w') (hd : w.drawn ≤ w'.drawn) : ∃ q os, w' = Go.Sort.grow (w.drewN q) os := by
  refine ⟨w'.drawn - w.drawn, w'.heap.extract w.heap.size w'.heap.size, ?_⟩
  have e : w'.heap = w.heap ++ w'.heap.extract w.heap.size w'.heap.size := by
    apply Array.ext_getElem?
    intro i
    rw [Array.getElem?_append]
    split
    · rename_i hi; exact h.block i hi
    · rename_i hi
      rw [Array.getElem?_extract]
      split
      · congr 1; omega
      · exact Array.getElem?_eq_none (by omega)
  obtain ⟨h1, h2, h3, h4, h5⟩ := h
  cases w; cases w'
  simp only [Go.Sort.grow, World.drewN, World.mk.injEq] at *
  exact ⟨e, h2, by omega, h1, h3⟩
set_option maxRecDepth 8000 in
theorem compare_grow (ax ay bx by' : Int) (w : World) :
    Calls Try.prog 61 #[.agg #[.int .i64 ax, .int .i64 ay], .agg #[.int .i64 bx, .int .i64 by']] w fun e w' => e = .returned (.int .i64 (cmpV ax ay bx by')) ∧ Below w.heap.size w w' ∧ w.drawn ≤ w'.drawn := by
  go_enter Try.func61, Try.ntmps61
  go_wp2
  go_region_held3 (fun w' => w'.cell? ⟨w.heap.size, 0, none⟩ = some (.int .i64 ax) ∧ w'.cell? ⟨w.heap.size, 1, none⟩ = some (.int .i64 ay) ∧ w'.cell? ⟨w.heap.size + 1, 0, none⟩ = some (.int .i64 bx) ∧ w'.cell? ⟨w.heap.size + 1, 1, none⟩ = some (.int .i64 by'))
    (go_keep)
    (first | (go_at_call 73; refine (compareI_any _ _ _).mono ?_; rintro e w' ⟨rfl, rfl⟩) | (go_at_call 72; refine Calls.mono (or_any (w.heap.size + 1 + 1) (cmpI ax bx) (cmpI ay by') _ ?c0 ?c1) ?_; (case c0 => simp [go_sem]); (case c1 => simp [go_sem]); rintro e w' ⟨rfl, rfl⟩))
  all_goals go_wp2
  go_ret
  exact ⟨rfl, by repeat (first | exact Below.refl _ _ | assumption | apply Below.drew | refine Below.setCell ?_ (by first | omega | (simp; done) | (simp; omega)) _ | refine Below.alloc ?_ (by first | omega | (simp; done) | (simp; omega)) _ | refine Below.call (by assumption) ?_ (by first | omega | (simp; done) | (simp; omega))), Nat.le_succ _⟩
set_option maxRecDepth 8000 in
theorem cmp_grow (x y : Pt) (w : World) :
    Calls Try.prog 79 #[.agg (encPt x).toArray, .agg (encPt y).toArray] w fun e w' => e = .returned (.int .i64 (cmpP x y)) ∧ ∃ q os, w' = Go.Sort.grow (w.drewN q) os := by
  obtain ⟨ax, ay⟩ := x
  obtain ⟨bx, by'⟩ := y
  have hr : cmpP ⟨ax, ay⟩ ⟨bx, by'⟩ = cmpV ax ay bx by' := rfl
  rw [hr]
  have f := Lib.hid (fun w1 => compare_grow ax ay bx by' w1)
  generalize cmpV ax ay bx by' = r at *
  change Calls Try.prog 79 #[.agg #[.int .i64 ax, .int .i64 ay], .agg #[.int .i64 bx, .int .i64 by']] w _
  clear hr
  go_enter Try.func79, Try.ntmps79
  go_wp2_with fail
  refine (f.out _).mono ?_
  rintro e w1 ⟨rfl, b1, d1⟩
  have BB := ((((Below.refl w.heap.size w).alloc (Nat.le_refl _) (.cells #[.int .i64 ax, .int .i64 ay] 38)).alloc (by simp) (.cells #[.int .i64 bx, .int .i64 by'] 38))).trans (b1.mono (by simp; omega))
  have HG := Lib.hid (below_grow BB d1)
  clear b1 d1 BB
  go_wp2
  go_ret
  exact ⟨rfl, HG.out⟩
theorem lt_lex (x y : Pt) : ltOf cmpP x y = decide (LexLt x y) := by unfold ltOf; rw [decide_eq_decide]; exact cmp_lex
theorem swoPt : Go.Sort.SWO (ltOf cmpP) where
  irrefl x := by rw [lt_lex]; simp; exact fun h => h.irrefl
  trans x y z h1 h2 := by rw [lt_lex] at *; simp at *; exact h1.trans h2
  ntrans x y z h1 h2 := by
    rw [lt_lex] at *
    simp at *
    intro h
    rcases LexLt.tri x y with c | c | c
    · exact h1 c
    · exact h2 (c ▸ h)
    · exact h2 (c.trans h)
theorem nth_arr (d : Array Pt) (i : Nat) : d[i]! = nth d.toList i := by
  by_cases h : i < d.size
  · simp [nth, List.getD_eq_getElem?_getD, h]
  · simp [nth, List.getD_eq_getElem?_getD, h]; rfl
theorem flat_pts (d : Array Pt) : Go.Sort.flatK encPt 2 d = (ptCells d.toList).toArray := by
  refine Go.Sort.ext_get! (by simp [ptCells_len]) fun t ht => ?_
  have ht' : t < d.size * 2 := by simpa using ht
  rw [Go.Sort.get_flatK _ _ _ t ht', nth_arr]
  obtain ⟨q, r, hr, rfl⟩ : ∃ q r, r < 2 ∧ t = q * 2 + r := ⟨t / 2, t % 2, Nat.mod_lt _ (by omega), by omega⟩
  have hq : q < d.toList.length := by simp; omega
  obtain ⟨f0, f1⟩ := ptCells_get d.toList q hq
  rw [show (q * 2 + r) / 2 = q by omega, show (q * 2 + r) % 2 = r by omega]
  match r, hr with
  | 0, _ => simp [encPt, f0]
  | 1, _ => simp [encPt, f1]
theorem sort_any (base g cap : Nat) (l : List Pt) (w : World) (hr : w.ownsRow base 38 2 (.slice (some ⟨g, 0, none⟩) l.length cap) l.length (ptCells l)) (hsz : l.length ≤ 1000000) :
    Calls Try.prog 78 #[.slice (some ⟨g, 0, none⟩) l.length cap, .func (.func 79) #[] #[]] w fun e w' => e = .returned (.tuple #[]) ∧ ∃ m : List Pt, m.length = l.length ∧ (∀ x, x ∈ m ↔ x ∈ l) ∧ (∀ i j, i < j → j < m.length → ¬ LexLt (nth m j) (nth m i)) ∧
      w'.ownsRow base 38 2 (.slice (some ⟨g, 0, none⟩) l.length cap) l.length (ptCells m) ∧ w.grownBy w' (some g) := by
  have hlt := hr.lt g rfl
  have hH : Go.Sort.HoldsK encPt 2 w g 0 l.toArray := by
    intro j hj
    rw [flat_pts] at hj ⊢
    have hj' : j < l.length * 2 := by simpa [ptCells_len] using hj
    rw [Nat.zero_add]
    refine ⟨(hr.cellAt j hj').trans ?_, hr.frozenAt j⟩
    have : j < (ptCells l).length := by rw [ptCells_len]; exact hj'
    simp [this]
  have hcon := AnyQ.slices_SortFunc sortPts 2 Try.isAgg38 Try.sizeOf38 encPt (fun _ => rfl) (fun x v hv => by simp [encPt] at hv; rcases hv with rfl | rfl <;> rfl) cmpP swoPt 79 #[] g 0 cap l.toArray w
    (enters_of Try.func79 (by kernel_rfl) rfl) (fun m os dk _ x y => cmp_grow x y _) hH hlt.2 (by simp; omega)
  change Calls Try.prog 78 #[.slice (some ⟨g, 0, none⟩) l.length cap, _] w _ at hcon
  refine hcon.mono ?_
  rintro e w' ⟨rfl, d', n, os, hp, hs, rfl⟩
  have hsz' : d'.size = l.length := by have := hp.1; simpa using this
  refine ⟨rfl, d'.toList, by simpa using hsz', fun x => ?_, fun i j hij hj => ?_, ?_, ?_⟩
  · have h3 := hp.2.2
    have e1 : d'.extract 0 l.toArray.size = d' := by rw [List.size_toArray, ← hsz']; exact Array.extract_size
    have e2 : l.toArray.extract 0 l.toArray.size = l.toArray := Array.extract_size
    rw [e1, e2] at h3
    exact h3.mem_iff
  · have := hs i j (Nat.zero_le _) hij (by simp at hj ⊢; omega)
    rw [lt_lex, nth_arr, nth_arr] at this
    simpa using this
  · rcases hr.2 with ⟨h', _⟩ | ⟨g', cap', cur, h', hb, hg, hnc, hcm, hcs, htake⟩
    · simp at h'
    · simp only [Value.slice.injEq, Option.some.injEq, Addr.mk.injEq, and_true, true_and] at h'
      obtain ⟨rfl, rfl⟩ := h'
      refine ⟨by rw [ptCells_len]; simp; omega, .inr ⟨g, cap, Go.Sort.putCells id 0 (Go.Sort.flatK encPt 2 d') cur, rfl, hb, ?_, hnc, hcm, ?_, ?_⟩⟩
      · unfold Go.Proofs.sortWorldK Go.Sort.putRowK Go.Sort.putRow
        rw [Go.Sort.heap_grow_old _ _ (by simp [Go.Sort.mapBlock, Go.Sort.ahead]; exact hlt.2)]
        simp only [Go.Sort.mapBlock, Go.Sort.ahead, Array.getElem?_modify, if_true]
        rw [hg]
        rfl
      · simp [Go.Sort.putCells, hcs]
      · rw [flat_pts]
        apply List.ext_getElem?
        intro i
        rw [List.getElem?_take]
        split
        · rename_i hi
          have hi2 : i < (ptCells d'.toList).length := by rw [ptCells_len]; simp; omega
          have hi3 : i < cur.size := by have : l.length * 2 ≤ cap * 2 := Nat.mul_le_mul_right 2 hnc; omega
          simp [Go.Sort.putCells, hi2, hi3]
        · rename_i hi
          rw [List.getElem?_eq_none]
          rw [ptCells_len]; simp; omega
  · refine ⟨rfl, rfl, rfl, ?_, fun k hk hne => ?_⟩
    · simp [Go.Proofs.sortWorldK, Go.Sort.putRowK, Go.Sort.putRow, Go.Sort.mapBlock, Go.Sort.grow, Go.Sort.ahead]
    · unfold Go.Proofs.sortWorldK Go.Sort.putRowK Go.Sort.putRow
      rw [Go.Sort.heap_grow_old _ _ (by simpa [Go.Sort.mapBlock, Go.Sort.ahead] using hk)]
      simp only [Go.Sort.mapBlock, Go.Sort.ahead, Array.getElem?_modify]
      rw [if_neg (fun h => hne (by rw [h]))]
end Go.Proofs.Ytoekcefhphcjjaa
