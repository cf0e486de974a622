/- package hull: Box. | package hull: Has. -/
import Derived.Deep.CutRange
import Derived.Test.YtoekcefhphcjjaaBin07
import Derived.Test.YtoekcefhphcjjaaBin10
namespace Go.Proofs.Ytoekcefhphcjjaa
open Go.RowKit
attribute [local irreducible] wpQuiet

def boxL (l : List Pt) : Pt := ⟨loTo bxF1 l l.length, loTo bxF2 l l.length⟩
def boxH (l : List Pt) : Pt := ⟨hiTo bxF1 l l.length, hiTo bxF2 l l.length⟩

theorem Has.other {W : World} {B : Nat} {cs : Array Value} {t : TypeId} (h : Has W B cs t) (p : Addr) (v : Value) (hne : B ≠ p.block) : Has (W.setCell p v) B cs t := (Below.heap_setCell W p v B hne).trans h

theorem Has.same {W : World} {B : Nat} {cs : Array Value} {t : TypeId} (h : Has W B cs t) : W.setRow B cs = W := by
  have hlt := h.lt
  have hv : W.heap[B] = .cells cs t (0, 0) := (Array.getElem?_eq_some_iff.1 h).2
  unfold World.setRow
  cases W with
  | mk heap tape drawn os output =>
    congr 1
    apply Array.ext
    · simp
    · intro k h1 h2
      simp only [Array.getElem_modify]
      split
      · rename_i hk; subst hk; simp at hv; simp [hv]
      · rfl


set_option linter.unusedSimpArgs false in
set_option maxRecDepth 8000 in
set_option maxHeartbeats 1600000 in
theorem box_yes (v : Value) (l : List Pt) (w : World) (hp : PtsAt w.heap.size w v l) (hE : goValid l = true) :
    Calls Try.prog 16 #[v] w fun e w' => e = .returned (.tuple #[.agg #[.int .i64 (boxL l).x, .int .i64 (boxL l).y], .agg #[.int .i64 (boxH l).x, .int .i64 (boxH l).y], .int .i64 0]) ∧ Below w.heap.size w w' := by
  have W1 : Below w.heap.size w ((w.alloc (.cells #[.int .i64 0, .int .i64 0] 38)).alloc (.cells #[.int .i64 0, .int .i64 0] 38)) := ((Below.refl _ _).alloc (Nat.le_refl _) _).alloc (by first | omega | (simp; done) | (simp; omega)) _
  have hv := Lib.hid (hE ▸ hullValid_any v l _ ((hp.below W1).mono W1.size))
  have hl1 : 0 < l.length := by
    have : GoValid l := by simpa [goValid] using hE
    have := this.1; omega
  have HP := Lib.hid hp
  have he1 := fun w1 (B : Below w.heap.size w w1) => ends_1 v l w1 ((hp.below B).mono B.size) hl1
  have he2 := fun w1 (B : Below w.heap.size w w1) => ends_2 v l w1 ((hp.below B).mono B.size) hl1
  change ∀ w1, _ → Calls Try.prog 32 _ w1 fun e w' => e = .returned (.tuple #[.int .i64 (boxL l).x, .int .i64 (boxH l).x]) ∧ _ at he1
  change ∀ w1, _ → Calls Try.prog 32 _ w1 fun e w' => e = .returned (.tuple #[.int .i64 (boxL l).y, .int .i64 (boxH l).y]) ∧ _ at he2
  obtain ⟨_, a, cap, rfl, _⟩ := hp
  have H2 := (Has.new w #[.int .i64 0, .int .i64 0] 38).below ((Below.refl (w.heap.size + 1) _).alloc (by simp) (.cells #[.int .i64 0, .int .i64 0] 38)) (by omega)
  have H3 := Has.new (w.alloc (.cells #[.int .i64 0, .int .i64 0] 38)) #[.int .i64 0, .int .i64 0] 38
  rw [World.size_alloc] at H3
  have H2' := Lib.hid H2
  have H3' := Lib.hid H3
  have W1' := Lib.hid W1
  have HE := Lib.hid (And.intro he1 he2)
  clear W1 H2 H3 hE he1 he2
  generalize (boxL l).x = lx at *
  generalize (boxL l).y = ly at *
  generalize (boxH l).x = hx at *
  generalize (boxH l).y = hy at *
  go_enter Try.func16, Try.ntmps16
  go_wp2_with fail
  refine hv.out.mono ?_
  rintro e w1 ⟨rfl, hb1⟩
  have H2 := Lib.hid (H2'.out.below (hb1.mono (by simp) : Below (w.heap.size + 2) _ w1) (by omega))
  have H3 := Lib.hid (H3'.out.below (hb1.mono (by simp) : Below (w.heap.size + 2) _ w1) (by omega))
  have B1 := Lib.hid (W1'.out.trans (hb1.mono W1'.out.size))
  have hz := hb1.size
  simp at hz
  clear hb1
  go_wp2_with fail
  refine (HE.out.1 _ B1.out).mono ?_
  rintro e w2 ⟨rfl, hb2⟩
  have A2 := H2.out.below hb2 (by omega)
  have A3 := H3.out.below hb2 (by omega)
  have B2 := Lib.hid (B1.out.trans (hb2.mono B1.out.size))
  have hz2 := hb2.size
  have a0 : w2.cell? ⟨w.heap.size, 0, none⟩ = some (.int .i64 0) := A2.cell (i := 0) rfl
  have b0 : w2.cell? ⟨w.heap.size + 1, 0, none⟩ = some (.int .i64 0) := A3.cell (i := 0) rfl
  have f0 := cells_free A2 0
  have g0 := cells_free A3 0
  have A2' := Lib.hid A2
  have A3' := Lib.hid A3
  clear hb2 A2 A3
  go_upto_region 4 with fail
  have C2 : Has ((w2.setCell ⟨w.heap.size, 0, none⟩ (.int .i64 lx)).setCell ⟨w.heap.size + 1, 0, none⟩ (.int .i64 hx)) w.heap.size #[.int .i64 lx, .int .i64 0] 38 := (A2'.out.set 0 (.int .i64 lx) : Has _ _ #[.int .i64 lx, .int .i64 0] _).other ⟨w.heap.size + 1, 0, none⟩ _ (by simp)
  have C3 : Has ((w2.setCell ⟨w.heap.size, 0, none⟩ (.int .i64 lx)).setCell ⟨w.heap.size + 1, 0, none⟩ (.int .i64 hx)) (w.heap.size + 1) #[.int .i64 hx, .int .i64 0] 38 := ((A3'.out.other ⟨w.heap.size, 0, none⟩ (.int .i64 lx) (by simp)).set 0 (.int .i64 hx) : _)
  have B3 := (B2.out.setCell (p := ⟨w.heap.size, 0, none⟩) (Nat.le_refl _) (.int .i64 lx)).setCell (p := ⟨w.heap.size + 1, 0, none⟩) (by simp) (.int .i64 hx)
  generalize (w2.setCell ⟨w.heap.size, 0, none⟩ (.int .i64 lx)).setCell ⟨w.heap.size + 1, 0, none⟩ (.int .i64 hx) = w3 at C2 C3 B3 ⊢
  have C2' := Lib.hid C2
  have C3' := Lib.hid C3
  have B3' := Lib.hid B3
  have l2 := C2.lt
  have l3 := C3.lt
  clear a0 b0 f0 g0 C2 C3 B3
  go_wp2_with fail
  refine (HE.out.2 _ B3'.out).mono ?_
  rintro e w4 ⟨rfl, hb4⟩
  have A2 := C2'.out.below hb4 l2
  have A3 := C3'.out.below hb4 l3
  have B4 := Lib.hid (B3'.out.trans (hb4.mono B3'.out.size))
  have a0 : w4.cell? ⟨w.heap.size, 1, none⟩ = some (.int .i64 0) := A2.cell (i := 1) rfl
  have b0 : w4.cell? ⟨w.heap.size + 1, 1, none⟩ = some (.int .i64 0) := A3.cell (i := 1) rfl
  have f0 := cells_free A2 1
  have g0 := cells_free A3 1
  have A4 := Lib.hid A2
  have A5 := Lib.hid A3
  clear hb4 A2 A3
  go_upto_region 5 with fail
  have C2 : Has ((w4.setCell ⟨w.heap.size, 1, none⟩ (.int .i64 ly)).setCell ⟨w.heap.size + 1, 1, none⟩ (.int .i64 hy)) w.heap.size #[.int .i64 lx, .int .i64 ly] 38 := (A4.out.set 1 (.int .i64 ly) : Has _ _ #[.int .i64 lx, .int .i64 ly] _).other ⟨w.heap.size + 1, 1, none⟩ _ (by simp)
  have C3 : Has ((w4.setCell ⟨w.heap.size, 1, none⟩ (.int .i64 ly)).setCell ⟨w.heap.size + 1, 1, none⟩ (.int .i64 hy)) (w.heap.size + 1) #[.int .i64 hx, .int .i64 hy] 38 := ((A5.out.other ⟨w.heap.size, 1, none⟩ (.int .i64 ly) (by simp)).set 1 (.int .i64 hy) : _)
  have B5 := (B4.out.setCell (p := ⟨w.heap.size, 1, none⟩) (Nat.le_refl _) (.int .i64 ly)).setCell (p := ⟨w.heap.size + 1, 1, none⟩) (by simp) (.int .i64 hy)
  generalize (w4.setCell ⟨w.heap.size, 1, none⟩ (.int .i64 ly)).setCell ⟨w.heap.size + 1, 1, none⟩ (.int .i64 hy) = w5 at C2 C3 B5 ⊢
  have BR := Lib.hid B5
  clear a0 b0 f0 g0 B5
  refine (wpIn_wide (n := 9)).1 ?_
  refine wpIn_region_sched (lets_wide _) 3 (fun X => Has X w.heap.size #[.int .i64 lx, .int .i64 ly] 38 ∧ Has X (w.heap.size + 1) #[.int .i64 hx, .int .i64 hy] 38) (by kernel_rfl) (by kernel_rfl) (by kernel_rfl) fun hH inv0 => ?_
  refine sched_take hH (i := 0) (v := .agg #[.int .i64 lx, .int .i64 ly]) (drop_get rfl) (by omega) inv0 (by kernel_rfl) (by kernel_rfl) rfl (fun X hX => ?_) fun inv1 => ?_
  · have hx := hX.1.cell (i := 0) rfl; have hy := hX.1.cell (i := 1) rfl; go_simp
  simp only [Act.put, List.setIfInBounds_toArray, List.set_cons_zero, List.set_cons_succ]
  refine sched_take hH (i := 1) (v := .agg #[.int .i64 hx, .int .i64 hy]) (drop_get rfl) (by omega) inv1 (by kernel_rfl) (by kernel_rfl) rfl (fun X hX => ?_) fun inv2 => ?_
  · have hx := hX.2.cell (i := 0) rfl; have hy := hX.2.cell (i := 1) rfl; go_simp
  simp only [Act.put, List.setIfInBounds_toArray, List.set_cons_zero, List.set_cons_succ]
  have hb0 : Has w5.drew w.heap.size #[.int .i64 lx, .int .i64 ly] 38 := C2
  have hc0 : Has w5.drew (w.heap.size + 1) #[.int .i64 hx, .int .i64 hy] 38 := C3
  have hd0 : Below w5.heap.size w5 w5.drew := Below.drew (Below.refl _ _)
  generalize w5.drew = X0 at hb0 hc0 hd0 ⊢
  clear inv0 inv1 inv2 hH
  refine sched_all (rs := [2]) (by kernel_rfl) (by simp) ⟨hb0, hc0⟩ (by simp) (fun i hi' => ?_)
  simp only [List.mem_cons, List.not_mem_nil, or_false] at hi'
  subst hi'
  refine okOp_row (drop_get rfl) rfl rfl (g := w.heap.size) (cells := #[.int .i64 lx, .int .i64 ly]) rfl rfl hb0 (by kernel_rfl) rfl (by kernel_rfl) ?_
  simp only [Act.put, List.setIfInBounds_toArray, List.set_cons_zero, List.set_cons_succ]
  rw [hb0.same]
  refine sched_done (by kernel_rfl) ⟨hb0, hc0⟩ ?_
  simp only [List.drop_succ_cons, List.drop_zero]
  refine wpListIn_row rfl rfl (g := (w.heap.size + 1)) (cells := #[.int .i64 hx, .int .i64 hy]) rfl rfl hc0 (by kernel_rfl) rfl (by kernel_rfl) ?_
  rw [hc0.same]
  gi_wp2
  go_wp2
  have z0 : X0.cell? ⟨w.heap.size, 0, none⟩ = some (.int .i64 lx) := hb0.cell (i := 0) rfl
  have z1 : X0.cell? ⟨w.heap.size, 1, none⟩ = some (.int .i64 ly) := hb0.cell (i := 1) rfl
  have z2 : X0.cell? ⟨w.heap.size + 1, 0, none⟩ = some (.int .i64 hx) := hc0.cell (i := 0) rfl
  have z3 : X0.cell? ⟨w.heap.size + 1, 1, none⟩ = some (.int .i64 hy) := hc0.cell (i := 1) rfl
  exact bodyPost_ret (v := .tuple #[.agg #[.int .i64 lx, .int .i64 ly], .agg #[.int .i64 hx, .int .i64 hy], .int .i64 0]) (by simp [results, Try.f16, go_sem, z0, z1, z2, z3]) rfl ⟨rfl, BR.out.trans (hd0.mono BR.out.size)⟩
end Go.Proofs.Ytoekcefhphcjjaa

namespace Go.Proofs.Ytoekcefhphcjjaa
open Go.RowKit
attribute [local irreducible] wpQuiet
attribute [local go_sem] Oper.semAt_some

/-- a polygon has a point -/
noncomputable def inside (l : List Pt) (x : Pt) : Bool :=
  if l.length < 3 then decide (turnP (nth l 0) (nth l (l.length - 1)) x = 0 ∧ (boxL l).x ≤ x.x ∧ x.x ≤ (boxH l).x ∧ (boxL l).y ≤ x.y ∧ x.y ≤ (boxH l).y)
  else decide (∀ i, i < l.length → 0 ≤ turnP (sideP l i).1 (sideP l i).2 x)





noncomputable def hasB (l : List Pt) (x : Pt) : Bool := goValid l && placeP x && inside l x
end Go.Proofs.Ytoekcefhphcjjaa
