/- If no way has a wait, no stops lead further than all of them. No condition. -/
import Derived.Test.YtfbdidfaeplllaaGreatBin33
import Derived.Test.YtfbdidfaeplllaaGreatBin34
import Derived.Test.YtfbdidfaeplllaaGreatBin31
import Derived.Test.YtfbdidfaeplllaaGreatBin06
import Derived.Test.YtfbdidfaeplllaaGreatBin19
import Derived.OwnWalk
import Derived.Laws.OwnMore
namespace Go.Proofs.YtfbdidfaeplllaaGreat.planFree
open Go.ChangeShapes Go.WideShapes Go.ChangeAt Go.RowKit
set_option linter.unusedVariables false
theorem own : ownKnob Tryz.prog.godebug = none := by kernel_rfl
theorem laidOut : laidOutB Tryz.prog = true := by kernel_rfl
attribute [local irreducible] wpQuiet

theorem wayInfo : (Tryz.prog.info? 40).map (fun i => (i.zero, i.size, i.bytes)) = some (some (.agg #[.int .i64 0, .int .i64 0, .int .i64 0, .int .i64 0, .int .i64 0]), 5, 40) := by kernel_rfl
/-- the cells of ways, one behind the other -/
def flat (l : List Wy) : List Value := l.flatMap fun a => [.int .i64 a.x, .int .i64 a.y, .int .i64 a.fix, .int .i64 a.wait, .int .i64 a.back]
theorem flat_len : ∀ l : List Wy, (flat l).length = l.length * 5
  | [] => rfl
  | a :: l => by
    have := flat_len l
    simp only [flat, List.flatMap_cons, List.length_append, List.length_cons, List.length_nil] at *
    omega
theorem flat_one : ∀ l : List Wy, ∀ u ∈ flat l, u.oneCell' = true
  | [], u, h => by simp [flat] at h
  | a :: l, u, h => by
    simp only [flat, List.flatMap_cons, List.mem_append] at h
    rcases h with h | h
    · simp only [List.mem_cons, List.not_mem_nil, or_false] at h
      rcases h with rfl | rfl | rfl | rfl | rfl <;> rfl
    · exact flat_one l u h
theorem flat_get : ∀ (l : List Wy) (j : Nat), j < l.length → (flat l)[j * 5]? = some (.int .i64 (wy l j).x) ∧ (flat l)[j * 5 + 1]? = some (.int .i64 (wy l j).y) ∧ (flat l)[j * 5 + 2]? = some (.int .i64 (wy l j).fix) ∧ (flat l)[j * 5 + 3]? = some (.int .i64 (wy l j).wait) ∧ (flat l)[j * 5 + 4]? = some (.int .i64 (wy l j).back)
  | [], j, h => by simp at h
  | a :: l, 0, h => by simp [flat, wy]
  | a :: l, j + 1, h => by
    have ih := flat_get l j (by simpa using h)
    have e : ∀ c, (flat (a :: l))[(j + 1) * 5 + c]? = (flat l)[j * 5 + c]? := fun c => by
      simp only [flat, List.flatMap_cons]
      rw [List.getElem?_append_right (by simp; omega)]
      congr 1
      simp; omega
    have e0 := e 0
    simp only [Nat.add_zero] at e0
    have w : wy (a :: l) (j + 1) = wy l j := by simp [wy]
    rw [e0, e 1, e 2, e 3, e 4, w]
    exact ih
/-- the first k ways have no wait -/
def FrTo (l : List Wy) (k : Nat) (xs : List Value) : Prop :=
  ∀ j, j < l.length → xs[j * 5]? = some (.int .i64 (wy l j).x) ∧ xs[j * 5 + 1]? = some (.int .i64 (wy l j).y) ∧ xs[j * 5 + 2]? = some (.int .i64 (wy l j).fix) ∧
    xs[j * 5 + 3]? = some (.int .i64 (if j < k then 0 else (wy l j).wait)) ∧ xs[j * 5 + 4]? = some (.int .i64 (wy l j).back)
theorem FrTo.zero (l : List Wy) : FrTo l 0 (flat l) := fun j hj => by
  simpa using flat_get l j hj
theorem FrTo.next {l : List Wy} {k : Nat} {xs : List Value} (h : FrTo l k xs) (hk : k < l.length) (hl : xs.length = l.length * 5) :
    FrTo l (k + 1) (xs.set (k * 5 + 3) (.int .i64 0)) := by
  intro j hj
  obtain ⟨h1, h2, h3, h4, h5⟩ := h j hj
  have s : ∀ (u : Value) i, i ≠ k * 5 + 3 → (xs.set (k * 5 + 3) u)[i]? = xs[i]? := fun u i h1 => by rw [List.getElem?_set_ne (Ne.symm h1)]
  by_cases e : j = k
  · subst e
    rw [if_pos (by omega)]
    exact ⟨by rw [s _ _ (by omega)]; exact h1, by rw [s _ _ (by omega)]; exact h2, by rw [s _ _ (by omega)]; exact h3, by rw [List.getElem?_set_self (by omega)], by rw [s _ _ (by omega)]; exact h5⟩
  · have c : (j < k + 1) ↔ j < k := by omega
    simp only [c]
    rw [s _ _ (by omega), s _ _ (by omega), s _ _ (by omega), s _ _ (by omega), s _ _ (by omega)]
    exact ⟨h1, h2, h3, h4, h5⟩
theorem FrTo.ways {W : World} {base g cap : Nat} {m : Msn} {xs : List Value} (h : FrTo m.ways m.ways.length xs) (hrow : W.ownsRow base 40 5 (.slice (some ⟨g, 0, none⟩) m.ways.length cap) m.ways.length xs) (hl : m.ways.length ≤ 70368744177663) :
    ∃ c, cap = m.ways.length + c ∧ WaysAt W.heap.size W (.slice (some ⟨g, 0, none⟩) m.ways.length (m.ways.length + c)) (frM m).ways := by
  rcases hrow.2 with ⟨h', _⟩ | ⟨g', cap', cur, h', hb, hg, hnc, hcm, hcs, htake⟩
  · simp at h'
  · simp only [Value.slice.injEq, Option.some.injEq, Addr.mk.injEq, and_true, true_and] at h'
    obtain ⟨rfl, rfl⟩ := h'
    refine ⟨cap - m.ways.length, by omega, by rw [fr_len]; exact hl, _, cap - m.ways.length, by rw [fr_len], .inr ⟨g, 0, rfl, (Array.getElem?_eq_some_iff.1 hg).1, fun j hj => ?_⟩⟩
    rw [fr_len] at hj
    rw [fr_wy hj]
    obtain ⟨h1, h2, h3, h4, h5⟩ := h j hj
    rw [if_pos hj] at h4
    have c := fun i v hi (hv : xs[i]? = some v) => (hrow.cellAt i hi).trans hv
    rw [Nat.zero_add]
    exact ⟨c _ _ (by omega) h1, c _ _ (by omega) h2, c _ _ (by omega) h3, c _ _ (by omega) h4, c _ _ (by omega) h5⟩
theorem row_shape {W : World} {base n size : Nat} {e : TypeId} {v : Value} {xs : List Value} (h : W.ownsRow base e size v n xs) (h0 : 0 < n) : ∃ g cap, v = .slice (some ⟨g, 0, none⟩) n cap := by
  rcases h.2 with ⟨_, h'⟩ | ⟨g, cap, cur, h', _⟩
  · omega
  · exact ⟨g, cap, h'⟩
theorem row_lt {W : World} {base g n cap size : Nat} {e : TypeId} {xs : List Value} (h : W.ownsRow base e size (.slice (some ⟨g, 0, none⟩) n cap) n xs) : base ≤ g ∧ g < W.heap.size := h.lt g rfl
theorem flat_cells {W : World} {b o : Nat} {l : List Wy} (h : ∀ j, j < l.length → W.cell? ⟨b, o + j * 5, none⟩ = some (.int .i64 (wy l j).x) ∧ W.cell? ⟨b, o + j * 5 + 1, none⟩ = some (.int .i64 (wy l j).y) ∧ W.cell? ⟨b, o + j * 5 + 2, none⟩ = some (.int .i64 (wy l j).fix) ∧ W.cell? ⟨b, o + j * 5 + 3, none⟩ = some (.int .i64 (wy l j).wait) ∧ W.cell? ⟨b, o + j * 5 + 4, none⟩ = some (.int .i64 (wy l j).back)) :
    ∀ j u, (flat l)[j]? = some u → W.cell? ((⟨b, o, none⟩ : Addr).add j) = some u := by
  intro j u hu
  have hlt : j < (flat l).length := (List.getElem?_eq_some_iff.1 hu).1
  rw [flat_len] at hlt
  have e : (⟨b, o, none⟩ : Addr).add j = ⟨b, o + j, none⟩ := by unfold Addr.add; split <;> simp_all
  rw [e]
  obtain ⟨q, r, hr, rfl⟩ : ∃ q r, r < 5 ∧ j = q * 5 + r := ⟨j / 5, j % 5, Nat.mod_lt _ (by omega), by omega⟩
  have hq : q < l.length := by omega
  obtain ⟨f0, f1, f2, f3, f4⟩ := flat_get l q hq
  obtain ⟨g0, g1, g2, g3, g4⟩ := h q hq
  rw [← Nat.add_assoc]
  match r, hr with
  | 0, _ => rw [Nat.add_zero] at hu ⊢; rw [f0] at hu; rw [g0]; exact hu
  | 1, _ => rw [f1] at hu; rw [g1]; exact hu
  | 2, _ => rw [f2] at hu; rw [g2]; exact hu
  | 3, _ => rw [f3] at hu; rw [g3]; exact hu
  | 4, _ => rw [f4] at hu; rw [g4]; exact hu


set_option linter.unusedSimpArgs false in
set_option linter.unusedVariables false in
set_option maxRecDepth 8000 in
set_option maxHeartbeats 6400000 in
theorem walk (w : World) (m : Msn) (vw vh vr : Value) (u : Int) (hm : MsnAt w.heap.size w m vw vh vr) (hu0 : (Lit.int .u8 u).wf = true) :
    Calls Tryz.prog 11 #[.agg (msnCells m vw vh vr), .int .u8 u] w fun e w' => e = .returned (.bool true) ∧ Below w.heap.size w w' := by
  obtain ⟨u, rfl, hu⟩ := u8_bd hu0
  have hd := Lib.hid (fun w1 => head35_any w1)
  have ff := fun w1 (B : Below w.heap.size w w1) => few35_any m vw vh vr w1 ((hm.below B).mono B.size)
  have fv := fun w1 (B : Below w.heap.size w w1) => rValid31_any m vw vh vr w1 ((hm.below B).mono B.size)
  have MM := Lib.hid hm
  obtain ⟨⟨hm1, a1, cap1, rfl, hcw⟩, ⟨hm2, a2, cap2, rfl, hch⟩, ⟨hm3, a3, cap3, rfl, hcr⟩⟩ := hm
  clear hcw hm1 hch hcr hm2 hm3
  unfold msnCells at *
  replace ff := Lib.hid ff
  replace fv := Lib.hid fv
  have BW := Lib.hid (Below.refl w.heap.size w)
  clear hu0
  go_enter Tryz.func11, Tryz.ntmps11
  go_wp2_with fail
  generalize hXX0 : World.alloc w _ = X0
  obtain ⟨q0, hA, hzX0⟩ := box1 hXX0
  clear hXX0
  have BW := Lib.hid hA
  clear hA
  have MB := Lib.hid q0
  clear q0
  clear hzX0
  obtain ⟨c0, c1, c2, c3, c4, c5, c6, c7, c8, c9, c10⟩ := msn_cells (m := m) MB.out
  have ltMB := MB.out.lt
  refine (hd.out X0).mono ?_
  rintro e w1 ⟨rfl, b1⟩
  replace BW := Lib.hid (BW.out.trans (b1.mono BW.out.size))
  have B_X0 := Lib.hid b1
  clear b1
  clear c0 c1 c2 c3 c4 c5 c6 c7 c8 c9 c10 ltMB
  obtain ⟨c0, c1, c2, c3, c4, c5, c6, c7, c8, c9, c10⟩ := msn_cells (m := m) (MB.out.below B_X0.out MB.out.lt)
  have ltMB := (MB.out.below B_X0.out MB.out.lt).lt
  go_wp2_with fail
  refine (ff.out _ BW.out).mono ?_
  rintro e w2 ⟨rfl, b2⟩
  replace BW := Lib.hid (BW.out.trans (b2.mono BW.out.size))
  replace B_X0 := Lib.hid (B_X0.out.trans (b2.mono B_X0.out.size))
  clear b2
  clear c0 c1 c2 c3 c4 c5 c6 c7 c8 c9 c10 ltMB
  obtain ⟨c0, c1, c2, c3, c4, c5, c6, c7, c8, c9, c10⟩ := msn_cells (m := m) (MB.out.below B_X0.out MB.out.lt)
  have ltMB := (MB.out.below B_X0.out MB.out.lt).lt
  cases hfew : fewB m
  · skip
    go_wp2
    go_ret
    exact ⟨rfl, BW.out⟩
  have h8 := few_ways hfew
  clear hfew
  go_wp2_with fail
  refine (fv.out _ BW.out).mono ?_
  rintro e w3 ⟨rfl, b3⟩
  replace BW := Lib.hid (BW.out.trans (b3.mono BW.out.size))
  replace B_X0 := Lib.hid (B_X0.out.trans (b3.mono B_X0.out.size))
  clear b3
  clear c0 c1 c2 c3 c4 c5 c6 c7 c8 c9 c10 ltMB
  obtain ⟨c0, c1, c2, c3, c4, c5, c6, c7, c8, c9, c10⟩ := msn_cells (m := m) (MB.out.below B_X0.out MB.out.lt)
  have ltMB := (MB.out.below B_X0.out MB.out.lt).lt
  cases hV : validB m
  · skip
    go_wp2
    go_ret
    exact ⟨rfl, BW.out⟩
  have HV := Lib.hid hV
  have n2 := ((validB_iff m).1 hV).n2
  have h0 : 0 < m.ways.length := by omega
  have ju : IntKind.i64.wrap (u : Int) = (u : Int) := IntWalk.i64_in _ (by omega)
  clear hV
  have hw4 := BW.out.size
  have hx4 := B_X0.out.size
  go_upto_region 5 with fail
  generalize hXX4 : World.alloc w3 _ = X4
  obtain ⟨q0, hA, hzX4⟩ := box1 hXX4
  clear hXX4
  replace BW := Lib.hid (BW.out.trans (hA.mono BW.out.size))
  replace B_X0 := Lib.hid (B_X0.out.trans (hA.mono B_X0.out.size))
  clear hA
  have FB := Lib.hid q0
  clear q0
  clear hzX4
  clear c0 c1 c2 c3 c4 c5 c6 c7 c8 c9 c10 ltMB
  obtain ⟨b1, o, cap, hvw, hbb, hcc⟩ := MM.out.1.cells h0
  simp only [Value.slice.injEq, true_and] at hvw
  obtain ⟨rfl, -⟩ := hvw
  obtain ⟨bF, hbF⟩ : ∃ x, w3.heap.size = x := ⟨_, rfl⟩
  rw [hbF] at FB hw4 hx4 ⊢
  clear hbF
  have ltF := FB.out.lt
  have hw5 := BW.out.size
  have hx5 := B_X0.out.size
  have hA := (Below.refl X4.heap.size X4).alloc (Nat.le_refl _) (.cells #[] 40)
  have hcl := flat_cells (W := X4.alloc (.cells #[] 40)) (b := b1) (o := o) (l := m.ways) (fun j hj => by
    have e : ∀ q, (X4.alloc (.cells #[] 40)).cell? ⟨b1, q, none⟩ = w.cell? ⟨b1, q, none⟩ := fun q => ((hA.mono (by omega) : Below w.heap.size X4 _).cell (p := ⟨b1, q, none⟩) hbb).trans (BW.out.cell (p := ⟨b1, q, none⟩) hbb)
    rw [e, e, e, e, e]
    exact hcc j hj)
  have hown0 := World.ownsRow_made (size := 5) (e := 40) X4 #[] 0 (Nat.le_refl _) (by unfold maxLen; omega) (by simp)
  obtain ⟨i0, hi0, hz0', hz1', hz2'⟩ := info_parts wayInfo
  have HC := Lib.hid (And.intro hcc (And.intro hcl (And.intro hown0 hA)))
  have c0 : X4.cell? ⟨w.heap.size, 0, none⟩ = some (.slice (some ⟨b1, o, none⟩) m.ways.length (m.ways.length + cap1)) := (MB.out.below B_X0.out MB.out.lt).cell (i := 0) rfl
  have ltW := (MB.out.below B_X0.out MB.out.lt).lt
  clear hcc hcl hown0 hA
  go_wp2_with (at_builtin; refine wpList_append_own _ rfl _ _ 22 rfl X4.heap.size 40 i0 (.agg #[.int .i64 0, .int .i64 0, .int .i64 0, .int .i64 0, .int .i64 0]) 5 40 Tryz.underlying22 hi0 hz0' hz1' hz2' rfl (by decide) _ _ _ rfl HC.out.2.2.1 ⟨b1, o, none⟩ m.ways.length (m.ways.length + cap1) (flat m.ways) rfl (flat_len _) HC.out.2.1 (flat_one _) (by unfold maxLen; omega) (by omega) (by simp) ?_; intro v' w5 hown' hgrow _; rw [Nat.zero_add, List.nil_append] at hown'; obtain ⟨g, cap5, rfl⟩ := row_shape hown' h0; have hb5 : Below X4.heap.size X4 w5 := HC.out.2.2.2.grown hgrow (by simp) (fun j ej => (HC.out.2.2.1.lt j ej).1); have F5 := FB.out.below hb5 ltF; have x0 : w5.cell? ⟨bF, 0, none⟩ = some (.slice (some ⟨b1, o, none⟩) m.ways.length (m.ways.length + cap1)) := F5.cell (i := 0) rfl; have f0 := cells_free F5 0; have z5 := hb5.size; have HG := Lib.hid (And.intro hown' (And.intro hb5 F5)); clear hown' hb5 F5 hgrow c0)
  obtain ⟨hown, hb5, F5⟩ := HG.out
  have F6 := F5.set 0 (.slice (some ⟨g, 0, none⟩) m.ways.length cap5)
  have R6 := ownsRow_setCell_below hown (a := ⟨bF, 0, none⟩) ltF (.slice (some ⟨g, 0, none⟩) m.ways.length cap5)
  have B6 := (BW.out.trans (hb5.mono hw5)).setCell (p := ⟨bF, 0, none⟩) hw4 (.slice (some ⟨g, 0, none⟩) m.ways.length cap5)
  have Y6 := (B_X0.out.trans (hb5.mono hx5)).setCell (p := ⟨bF, 0, none⟩) hx4 (.slice (some ⟨g, 0, none⟩) m.ways.length cap5)
  have z6 : X4.heap.size ≤ (w5.setCell ⟨bF, 0, none⟩ (.slice (some ⟨g, 0, none⟩) m.ways.length cap5)).heap.size := by simpa using z5
  generalize w5.setCell ⟨bF, 0, none⟩ (.slice (some ⟨g, 0, none⟩) m.ways.length cap5) = Z at F6 R6 B6 Y6 z6 ⊢
  simp only [List.setIfInBounds_toArray, List.set_cons_zero, List.set_cons_succ] at F6
  have c0 : Z.cell? ⟨bF, 0, none⟩ = some (.slice (some ⟨g, 0, none⟩) m.ways.length cap5) := F6.cell (i := 0) rfl
  have HR6 := Lib.hid R6
  replace BW := Lib.hid B6
  replace B_X0 := Lib.hid Y6
  have FZ := Lib.hid F6
  clear hown hb5 F5 F6 R6 B6 Y6 HG x0 f0 FB HC z5
  go_wp2
  clear c0
  go_loopw [34] (fun x wr => ∃ (k : Nat) (xs : List Value), k ≤ m.ways.length ∧ x = .int .i64 (k : Int) ∧ wr.ownsRow X4.heap.size 40 5 (.slice (some ⟨g, 0, none⟩) m.ways.length cap5) m.ways.length xs ∧ FrTo m.ways k xs ∧ Below X4.heap.size Z wr) (fun x _ => m.ways.length - (intOf x).toNat)
  case atStart => exact ⟨0, flat m.ways, by omega, rfl, HR6.out, FrTo.zero _, Below.refl _ _⟩
  case round =>
    obtain ⟨k, xs, hk, rfl, hrow, hmv, hB⟩ := hrel
    have hgl := hrow.lt g rfl
    by_cases hlt : k < m.ways.length
    · obtain ⟨-, -, -, m4, -⟩ := hmv k hlt
      rw [if_neg (Nat.lt_irrefl k)] at m4
      have hxl : xs.length = m.ways.length * 5 := hrow.1
      have nx := Lib.hid (hmv.next hlt hxl)
      have cx := (hrow.cellAt (k * 5 + 3) (by omega)).trans m4
      have wf := hrow.frozenAt (k * 5 + 3)
      have HS := Lib.hid (hrow.stored (k * 5 + 3) (.int .i64 0)).1
      have l0 : wr.cell? ⟨bF, 0, none⟩ = some (.slice (some ⟨g, 0, none⟩) m.ways.length cap5) := (FZ.out.below hB ltF).cell (i := 0) rfl
      have dk : decide ((k : Int) < (m.ways.length : Int)) = true := by simp; omega
      have kl : (k : Int) < m.ways.length := by omega
      have k0 : (0 : Int) ≤ k := by omega
      have HBB := Lib.hid hB
      generalize (wy m.ways k).wait = wt at *
      clear hrow hmv m4 hB hxl
      go_wp2
      go_roundw
      case rel => exact ⟨k + 1, _, by omega, by go_num, HS.out, nx.out, HBB.out.setCell (p := ⟨g, k * 5 + 3, none⟩) hgl.1 _⟩
      case measure => simp [intOf]; omega
    obtain rfl : k = m.ways.length := by omega
    obtain ⟨c, rfl, hways⟩ := hmv.ways hrow MM.out.1.1
    have dk : decide ((m.ways.length : Int) < (m.ways.length : Int)) = false := by simp
    replace BW := Lib.hid (BW.out.trans (hB.mono hw5))
    have FR := Lib.hid (FZ.out.below hB ltF)
    have M2 : Hid (MsnAt wr.heap.size wr (frM m) (.slice (some ⟨g, 0, none⟩) m.ways.length (m.ways.length + c)) (.slice a2 m.home.length (m.home.length + cap2)) (.slice a3 m.rocks.length (m.rocks.length + cap3))) := ⟨hways, (MM.out.2.1.below BW.out).mono BW.out.size, (MM.out.2.2.below BW.out).mono BW.out.size⟩
    have BR := Lib.hid (Below.refl wr.heap.size wr)
    obtain ⟨e1, e2, e3⟩ := free_law HV.out u
    have fx := fun w1 (B : Below wr.heap.size wr w1) => rfixes_any (frM m) _ _ _ w1 ((M2.out.below B).mono B.size) (by rw [fr_len]; omega)
    have fa := fun vl w1 (B : Below wr.heap.size wr w1) hl => tkeeps_any (frM m) _ _ _ vl (fixL (frM m)) w1 ((M2.out.below B).mono B.size) hl
    have fb := fun vl w1 (B : Below wr.heap.size wr w1) hl => tkeeps_any (frM m) _ _ _ vl (chosenL (fixL (frM m)) u) w1 ((M2.out.below B).mono B.size) hl
    rw [e1] at fa
    rw [e2] at fb
    have hfl : (fixL (frM m)).length ≤ 20 := by have : (fixL (frM m)).length ≤ (frM m).ways.length - 1 := fixTo_len (frM m) (frM m).ways.length; rw [fr_len] at this; omega
    generalize kpL (frM m) (chosenL (fixL (frM m)) u) = A1 at fb e3
    generalize kpK (frM m) (chosenL (fixL (frM m)) u) = K1 at fb
    generalize kpL (frM m) (fixL (frM m)) = A2 at fa e3
    generalize kpK (frM m) (fixL (frM m)) = K2 at fa
    generalize fixL (frM m) = L at fx fa fb hfl
    dsimp only [msnCells, frM] at fx fa fb
    replace fx := Lib.hid fx
    replace fa := Lib.hid fa
    replace fb := Lib.hid fb
    have dle : decide (A1 ≤ A2) = true := by rw [decide_eq_true_eq]; exact e3
    clear hrow hmv hB hways e1 e2 e3 MB B_X0 FZ HR6 M2 MM hi0 hgl
    obtain ⟨d0, d1, d2, d3, d4, d5, d6, d7, d8, d9, d10⟩ := msn_cells (m := m) FR.out
    have ltFR := FR.out.lt
    go_wp2_with fail
    refine (fx.out _ BR.out).mono ?_
    rintro e w4 ⟨v1, rfl, p1, b4⟩
    replace BW := Lib.hid (BW.out.trans (b4.mono BW.out.size))
    have BR := Lib.hid b4
    clear b4
    have P1 := Lib.hid p1
    clear p1
    obtain ⟨-, g1, l1, hv1, -⟩ := P1.out
    subst hv1
    clear d0 d1 d2 d3 d4 d5 d6 d7 d8 d9 d10 ltFR
    obtain ⟨d0, d1, d2, d3, d4, d5, d6, d7, d8, d9, d10⟩ := msn_cells (m := m) (FR.out.below BR.out FR.out.lt)
    have ltFR := (FR.out.below BR.out FR.out.lt).lt
    go_wp2_with fail
    refine (fa.out _ _ BR.out P1.out).mono ?_
    rintro e w5 ⟨rfl, b5⟩
    replace BW := Lib.hid (BW.out.trans (b5.mono BW.out.size))
    replace BR := Lib.hid (BR.out.trans (b5.mono BR.out.size))
    have B_w4 := Lib.hid b5
    clear b5
    clear d0 d1 d2 d3 d4 d5 d6 d7 d8 d9 d10 ltFR
    obtain ⟨d0, d1, d2, d3, d4, d5, d6, d7, d8, d9, d10⟩ := msn_cells (m := m) (FR.out.below BR.out FR.out.lt)
    have ltFR := (FR.out.below BR.out FR.out.lt).lt
    go_upto_region 13 with fail
    refine (wpIn_wide (n := 9)).1 ?_
    refine wpIn_region_sched (lets_wide _) 12 (fun X => Below w5.heap.size w5 X) (by kernel_rfl) (by kernel_rfl) (by kernel_rfl) fun hH inv0 => ?_
    have hD := Below.drew (Below.refl w5.heap.size w5)
    generalize hXX13 : w5.drew = X13 at *
    clear hXX13
    replace BW := Lib.hid (BW.out.trans (hD.mono BW.out.size))
    replace BR := Lib.hid (BR.out.trans (hD.mono BR.out.size))
    replace B_w4 := Lib.hid (B_w4.out.trans (hD.mono B_w4.out.size))
    have B_w5 := Lib.hid hD
    clear hD
    refine sched_take hH (i := 0) (v := .agg #[.slice (some ⟨g, 0, none⟩) m.ways.length (m.ways.length + c), .slice a2 m.home.length (m.home.length + cap2), .int .i64 m.start, .slice a3 m.rocks.length (m.rocks.length + cap3), .int .i64 m.speed, .int .i64 m.part, .int .i64 m.flow, .int .i64 m.idle, .int .i64 m.drive, .int .i64 m.battery, .int .i64 m.deadline]) (drop_get rfl) (by omega) inv0 (by kernel_rfl) (by kernel_rfl) rfl (fun X hX => ?_) fun inv1 => ?_
    · have r0 := (hX.cell (p := ⟨bF, 0, none⟩) (World.block_lt_of_cell? _ _ d0)).trans d0; have r1 := (hX.cell (p := ⟨bF, 1, none⟩) (World.block_lt_of_cell? _ _ d1)).trans d1; have r2 := (hX.cell (p := ⟨bF, 2, none⟩) (World.block_lt_of_cell? _ _ d2)).trans d2; have r3 := (hX.cell (p := ⟨bF, 3, none⟩) (World.block_lt_of_cell? _ _ d3)).trans d3; have r4 := (hX.cell (p := ⟨bF, 4, none⟩) (World.block_lt_of_cell? _ _ d4)).trans d4; have r5 := (hX.cell (p := ⟨bF, 5, none⟩) (World.block_lt_of_cell? _ _ d5)).trans d5; have r6 := (hX.cell (p := ⟨bF, 6, none⟩) (World.block_lt_of_cell? _ _ d6)).trans d6; have r7 := (hX.cell (p := ⟨bF, 7, none⟩) (World.block_lt_of_cell? _ _ d7)).trans d7; have r8 := (hX.cell (p := ⟨bF, 8, none⟩) (World.block_lt_of_cell? _ _ d8)).trans d8; have r9 := (hX.cell (p := ⟨bF, 9, none⟩) (World.block_lt_of_cell? _ _ d9)).trans d9; have r10 := (hX.cell (p := ⟨bF, 10, none⟩) (World.block_lt_of_cell? _ _ d10)).trans d10; go_simp
    simp only [Act.put, List.setIfInBounds_toArray, List.set_cons_zero, List.set_cons_succ]
    clear inv0
    refine sched_take hH (i := 1) (v := .slice g1 L.length (L.length + l1)) (drop_get rfl) (by omega) inv1 (by kernel_rfl) (by kernel_rfl) rfl (fun X hX => ?_) fun inv2 => ?_
    · go_simp
    simp only [Act.put, List.setIfInBounds_toArray, List.set_cons_zero, List.set_cons_succ]
    clear inv1
    refine sched_take hH (i := 2) (v := .int .u8 (u : Int)) (drop_get rfl) (by omega) inv2 (by kernel_rfl) (by kernel_rfl) rfl (fun X hX => ?_) fun inv3 => ?_
    · go_simp
    simp only [Act.put, List.setIfInBounds_toArray, List.set_cons_zero, List.set_cons_succ]
    clear inv2
    refine sched_take hH (i := 3) (v := .int .i64 (u : Int)) (drop_get rfl) (by omega) inv3 (by kernel_rfl) (by kernel_rfl) rfl (fun X hX => ?_) fun inv4 => ?_
    · go_simp
    simp only [Act.put, List.setIfInBounds_toArray, List.set_cons_zero, List.set_cons_succ]
    clear inv3
    have inv5 := HeadInv.put2 inv4 (j := 4) (by kernel_rfl) (by omega)
    clear inv4
    refine sched_all (rs := [4]) (by kernel_rfl) (by simp) B_w5.out (by simp) (fun i hi' => ?_)
    simp only [List.mem_cons, List.not_mem_nil, or_false] at hi'
    subst hi'
    refine okOp_call (drop_get rfl) rfl (f := 35) (args := #[.slice g1 L.length (L.length + l1), .int .i64 (u : Int)]) (by go_simp) (rchosen_any _ L u (by omega) hfl X13 ((P1.out.below B_w4.out).mono B_w4.out.size)) ?_
    rintro e w6 ⟨v3, rfl, p3, b6⟩
    refine ⟨_, rfl, ?_⟩
    simp only [Act.put, List.setIfInBounds_toArray, List.set_cons_zero, List.set_cons_succ]
    replace BW := Lib.hid (BW.out.trans (b6.mono BW.out.size))
    replace BR := Lib.hid (BR.out.trans (b6.mono BR.out.size))
    replace B_w4 := Lib.hid (B_w4.out.trans (b6.mono B_w4.out.size))
    replace B_w5 := Lib.hid (B_w5.out.trans (b6.mono B_w5.out.size))
    clear b6
    have P3 := Lib.hid p3
    clear p3
    obtain ⟨-, g3, l3, hv3, -⟩ := P3.out
    subst hv3
    have inv6 := HeadInv.put2 inv5 (j := 5) (by kernel_rfl) (by omega)
    clear inv5
    refine sched_all (rs := [5]) (by kernel_rfl) (by simp) B_w5.out (by simp) (fun i hi' => ?_)
    simp only [List.mem_cons, List.not_mem_nil, or_false] at hi'
    subst hi'
    refine okOp_call (drop_get rfl) rfl (f := 25) (args := #[.agg #[.slice (some ⟨g, 0, none⟩) m.ways.length (m.ways.length + c), .slice a2 m.home.length (m.home.length + cap2), .int .i64 m.start, .slice a3 m.rocks.length (m.rocks.length + cap3), .int .i64 m.speed, .int .i64 m.part, .int .i64 m.flow, .int .i64 m.idle, .int .i64 m.drive, .int .i64 m.battery, .int .i64 m.deadline], .slice g3 (chosenL L u).length ((chosenL L u).length + l3)]) (by go_simp) (fb.out _ _ BR.out P3.out) ?_
    rintro e w7 ⟨rfl, b7⟩
    refine ⟨_, rfl, ?_⟩
    simp only [Act.put, List.setIfInBounds_toArray, List.set_cons_zero, List.set_cons_succ]
    replace BW := Lib.hid (BW.out.trans (b7.mono BW.out.size))
    replace BR := Lib.hid (BR.out.trans (b7.mono BR.out.size))
    replace B_w4 := Lib.hid (B_w4.out.trans (b7.mono B_w4.out.size))
    replace B_w5 := Lib.hid (B_w5.out.trans (b7.mono B_w5.out.size))
    have B_w6 := Lib.hid b7
    clear b7
    refine sched_take hH (i := 6) (v := .tuple #[.int .i64 A1, .int .i64 K1, .int .i64 0]) (drop_get rfl) (by omega) inv6 (by kernel_rfl) (by kernel_rfl) rfl (fun X hX => ?_) fun inv7 => ?_
    · go_simp
    simp only [Act.put, List.setIfInBounds_toArray, List.set_cons_zero, List.set_cons_succ]
    clear inv6
    refine sched_take hH (i := 7) (v := .int .i64 A1) (drop_get rfl) (by omega) inv7 (by kernel_rfl) (by kernel_rfl) rfl (fun X hX => ?_) fun inv8 => ?_
    · go_simp
    simp only [Act.put, List.setIfInBounds_toArray, List.set_cons_zero, List.set_cons_succ]
    clear inv7
    refine sched_take hH (i := 8) (v := .int .i64 K1) (drop_get rfl) (by omega) inv8 (by kernel_rfl) (by kernel_rfl) rfl (fun X hX => ?_) fun inv9 => ?_
    · go_simp
    simp only [Act.put, List.setIfInBounds_toArray, List.set_cons_zero, List.set_cons_succ]
    clear inv8
    refine sched_take hH (i := 9) (v := .int .i64 0) (drop_get rfl) (by omega) inv9 (by kernel_rfl) (by kernel_rfl) rfl (fun X hX => ?_) fun inv10 => ?_
    · go_simp
    simp only [Act.put, List.setIfInBounds_toArray, List.set_cons_zero, List.set_cons_succ]
    clear inv9
    refine sched_take hH (i := 10) (v := .int .i64 A1) (drop_get rfl) (by omega) inv10 (by kernel_rfl) (by kernel_rfl) rfl (fun X hX => ?_) fun inv11 => ?_
    · go_simp
    simp only [Act.put, List.setIfInBounds_toArray, List.set_cons_zero, List.set_cons_succ]
    clear inv10
    refine sched_take hH (i := 11) (v := .int .i64 K1) (drop_get rfl) (by omega) inv11 (by kernel_rfl) (by kernel_rfl) rfl (fun X hX => ?_) fun inv12 => ?_
    · go_simp
    simp only [Act.put, List.setIfInBounds_toArray, List.set_cons_zero, List.set_cons_succ]
    clear inv11
    clear inv12 hH
    refine sched_done (by kernel_rfl) B_w5.out ?_
    simp only [List.drop_succ_cons, List.drop_zero]
    clear B_w5
    gi_wp2
    go_wp2
    go_ret
    exact ⟨rfl, BW.out⟩

set_option maxRecDepth 100000 in
theorem lifted (os : Os) (started : os.Started) (H : Type) (enc : TypeId × Value → H) :
    ReturnsInHanded {} Tryz.checked os 11 .any (Rows.planFreeSpec.pre6 enc Tryz.prog Tryz.f11 Rows.planFreeRow.domain false) (Rows.planFreeSpec.post enc Tryz.prog Tryz.f11 false true false false) := by
  refine returnsInHanded_of_change_sized (C := Tryz.checked) own started (by kernel_rfl) Tryz.func11
    (ChangeSpec.witness6 (enc := enc) (C := Tryz.checked) false ⟨#[], #[.agg #[.slice none 0 0, .slice none 0 0, .int .i64 0, .slice none 0 0, .int .i64 0, .int .i64 0, .int .i64 0, .int .i64 0, .int .i64 0, .int .i64 0, .int .i64 0], .int .u8 0], []⟩ 8 (by kernel_rfl) (by kernel_rfl) (by kernel_rfl) (by kernel_rfl)) ?_
  intro W base args ds gs before hval0 hW hcnd hsz0 _
  have hval : ∀ (j : Nat) t v, Tryz.f11.params[j]? = some t → args[j]? = some v → Value.okWide Tryz.prog W .any base t v := hval0
  have hW' := hW
  obtain ⟨p, q, hA0, hV, rfl, hfz, hnd⟩ := hW
  have hA : DataW.TrodAll enc Tryz.prog W 0 (fun _ => true) true Tryz.f11.params.toList args.toList ds p := hA0
  have hsz : (DataW.weightsEach Tryz.prog (Tryz.f11.params.toList ++ Rows.planFreeSpec.plain.varTypes Tryz.prog) (ds ++ gs)).all (· ≤ reachBytes) = true := hsz0
  rw [Tryz.params11] at hA hval hsz
  obtain ⟨v0, vs0, d0, ds0, p0, q0, hargs, rfl, rfl, h0, r0⟩ := trodAll_cons hA
  obtain ⟨v1, vs1, d1, ds1, p1, q1, rfl, rfl, rfl, h1, r1⟩ := trodAll_cons r0
  obtain ⟨rfl, rfl, rfl⟩ := trodAll_nil r1
  obtain rfl : args = #[v0, v1] := by cases args; simp_all
  obtain ⟨rfl, rfl⟩ := trodVars_none hV
  have k0 := h0
  have lt0 : ∀ x ∈ p0, x.block < W.heap.size := by obtain ⟨m, hm⟩ := k0; exact DataW.trod_lt m _ _ _ hm
  have z0 : ∀ n ∈ d0.weights Tryz.prog 26, n ≤ reachBytes := fun n hn => by have := List.all_eq_true.1 hsz n (DataW.weights_mem_each (j := 0) (t := 26) (d := d0) rfl rfl n hn); simpa using this
  obtain ⟨a0, vw0, vh0, vr0, rfl, w0⟩ := open_msn (hval 0 26 v0 rfl rfl) h0 z0
  obtain ⟨a1, rfl, rfl, rfl, w1⟩ := open_int Tryz.underlying5 (hval 1 5 v1 rfl rfl) h1
  clear hA0 hval0
  refine (walk W a0 vw0 vh0 vr0 a1 w0 w1).mono fun e W' ⟨he, bel⟩ => ?_
  subst he
  exact ⟨_, rfl, _, _, _, [], _, [], hW', trodAll_mk1 (shut_bool Tryz.underlying4 _), (trodAll_cons_mk (Below.trod laidOut (by kernel_rfl) (of_decide_eq_true (by kernel_rfl)) k0 bel lt0) (trodAll_cons_mk (shut_int Tryz.underlying5 w1) trodAll_mk0)), rfl, bel.frame _, fun h => by cases h⟩

theorem over : Rows.planFreeRow.holds Tryz.pinned (OpenSpec.ofChange Rows.planFreeSpec) :=
  OpenClaim.holds_of_wide 11 Tryz.f11 rfl rfl rfl rfl rfl rfl rfl ⟨rfl, rfl, rfl, rfl, rfl⟩ rfl rfl rfl rfl rfl (by kernel_rfl) Tryz.func11 (by kernel_rfl)
    (of_decide_eq_true (by kernel_rfl)) (by unfold Func.isWrapper; first | (rw [if_pos (by decide +kernel)]; kernel_rfl) | (rw [if_neg (by decide +kernel)]; exact ⟨rfl, rfl⟩))
    (fun os started H enc _ => lifted os started H enc)

/-- the statement -/
theorem proved : Rows.PlanFreeSaid := over
#print axioms proved
end Go.Proofs.YtfbdidfaeplllaaGreat.planFree
