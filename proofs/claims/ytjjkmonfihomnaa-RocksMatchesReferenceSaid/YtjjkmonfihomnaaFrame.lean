/- package cut: frame. -/
import Derived.Test.YtjjkmonfihomnaaCutA
import Derived.Test.YtjjkmonfihomnaaPtRow
import Derived.Test.YtjjkmonfihomnaaCopy
import Derived.Deep.CutRange
namespace Go.Proofs.Ytjjkmonfihomnaa
open Go.RowKit
attribute [local irreducible] wpQuiet

/-- the place at or below, and at or above, the point that divides u and v by s and t -/
def frLo (u v s t : Int) : Int := u + ((v - u) * s).fdiv (s - t)
def frHi (u v s t : Int) : Int := u - (-((v - u) * s)).fdiv (s - t)

set_option linter.unusedSimpArgs false in
set_option maxRecDepth 4000 in
set_option maxHeartbeats 800000 in
theorem frame1_any (Bs Bt : Nat) (u v s t : Int) (w : World) (hs : w.cell? ⟨Bs, 0, none⟩ = some (.int .i64 s)) (ht : w.cell? ⟨Bt, 0, none⟩ = some (.int .i64 t))
    (u1 : -500000 ≤ u) (u2 : u ≤ 500000) (v1 : -500000 ≤ v) (v2 : v ≤ 500000) (s1 : -2000000000000 ≤ s) (s2 : s ≤ 2000000000000) (t1 : -2000000000000 ≤ t) (t2 : t ≤ 2000000000000) (hne : ¬ s - t = 0) :
    Calls Try.prog 125 #[.int .i64 u, .int .i64 v, .pointer (some ⟨Bs, 0, none⟩), .pointer (some ⟨Bt, 0, none⟩)] w fun e w' => e = .returned (.agg #[.int .i64 (frLo u v s t), .int .i64 (frHi u v s t)]) ∧ Below w.heap.size w w' := by
  have pb := prod_bd (a := v - u) (b := s) (m := 1000000) (n := 2000000000000) (by omega) (by omega) (by omega) (by omega)
  have f1 := fun w1 => floor_any ((v - u) * s) (s - t) w1 (by omega) (by omega) (by omega) (by omega) hne
  have f2 := fun w1 => floor_any (-((v - u) * s)) (s - t) w1 (by omega) (by omega) (by omega) (by omega) hne
  have b1 := fdiv_wd ((v - u) * s) (s - t) (by omega) (by omega) hne
  have b2 := fdiv_wd (-((v - u) * s)) (s - t) (by omega) (by omega) hne
  have m1 : IntKind.i64.wrap ((v - u) * s) = (v - u) * s := IntWalk.i64_in _ (by omega)
  have m2 : IntKind.i64.wrap (-((v - u) * s)) = -((v - u) * s) := IntWalk.i64_in _ (by omega)
  have m3 : IntKind.i64.wrap (v - u) = v - u := IntWalk.i64_in _ (by omega)
  have m4 : IntKind.i64.wrap (s - t) = s - t := IntWalk.i64_in _ (by omega)
  have m5 : IntKind.i64.wrap (u + ((v - u) * s).fdiv (s - t)) = frLo u v s t := IntWalk.i64_in _ (by omega)
  have m6 : IntKind.i64.wrap (u - (-((v - u) * s)).fdiv (s - t)) = frHi u v s t := IntWalk.i64_in _ (by omega)
  have hbs := World.block_lt_of_cell? w _ hs
  have hbt := World.block_lt_of_cell? w _ ht
  have hN := Has.new w #[.int .i64 0, .int .i64 0] 127
  have hA := (Below.refl w.heap.size w).alloc (Nat.le_refl _) (.cells #[.int .i64 0, .int .i64 0] 127)
  have c0 := (hA.cell (p := ⟨Bs, 0, none⟩) hbs).trans hs
  have c1 := (hA.cell (p := ⟨Bt, 0, none⟩) hbt).trans ht
  have l0 := Low.fact c0
  have l1 := Low.fact c1
  have hF := Lib.hid (And.intro f1 f2)
  have HN := Lib.hid hN
  have HA := Lib.hid hA
  clear f1 f2 pb b1 b2 hN hs ht
  generalize frLo u v s t = lo at *
  generalize frHi u v s t = hi at *
  generalize ((v - u) * s).fdiv (s - t) = q1 at *
  generalize (-((v - u) * s)).fdiv (s - t) = q2 at *
  go_enter Try.func125, Try.ntmps125
  go_wp2
  obtain ⟨W1, hW1⟩ : ∃ W1, w.alloc (.cells #[.int .i64 0, .int .i64 0] 127) = W1 := ⟨_, rfl⟩
  rw [hW1] at l0 l1 c0 c1 HN HA ⊢
  have hlt := HN.out.lt
  clear hW1 hA
  (refine (wpIn_wide (n := 9)).1 ?_; refine wpIn_region_low_tail (lets_wide _) 16 (by kernel_rfl) (by kernel_rfl) (by kernel_rfl) ?_; simp only [List.take_succ_cons, List.take_zero, List.drop_succ_cons, List.drop_zero]; (iterate 16 (apply quiet_want; (case hw => rfl); (case hval => (intro w1 hw1; have hcx := Low.cells hw1; simp only [Oper.quietAt]; go_simp; first | done | (first | (go_at_call 126; with_reducible exact Low.calls_same hw1 (hF.out.1 _)) | (go_at_call 126; with_reducible exact Low.calls_same hw1 (hF.out.2 _))) | rfl | exact ⟨rfl, rfl⟩)); simp only [Act.put, List.setIfInBounds_toArray, List.set_cons_zero, List.set_cons_succ])); refine wpQuiet_nil ?_; intro w2 hw2)
  have h2 := HN.out.below hw2.out hlt
  have B2 := HA.out.trans (hw2.out.mono HA.out.size)
  refine wpListIn_row rfl rfl (g := w.heap.size) (cells := #[.int .i64 lo, .int .i64 hi]) rfl rfl h2 (by kernel_rfl) rfl (by kernel_rfl) ?_
  have h3 := Has.put (cells := #[.int .i64 lo, .int .i64 hi]) h2
  have B3 := Below.setRow B2 (C := w.heap.size) (Nat.le_refl _) #[.int .i64 lo, .int .i64 hi]
  have z0 : (w2.setRow w.heap.size #[.int .i64 lo, .int .i64 hi]).cell? ⟨w.heap.size, 0, none⟩ = some (.int .i64 lo) := h3.cell (i := 0) rfl
  have z1 : (w2.setRow w.heap.size #[.int .i64 lo, .int .i64 hi]).cell? ⟨w.heap.size, 1, none⟩ = some (.int .i64 hi) := h3.cell (i := 1) rfl
  clear hw2 h2 h3 B2 l0 l1 c0 c1
  gi_wp2
  go_wp2
  exact bodyPost_ret (v := .agg #[.int .i64 lo, .int .i64 hi]) (by simp [results, Try.f125, go_sem, z0, z1]) rfl ⟨rfl, B3⟩

/-- the places around the point that divides a side -/
def frameP (a b : Pt) (s t : Int) : List Pt := [⟨frLo a.x b.x s t, frLo a.y b.y s t⟩, ⟨frLo a.x b.x s t, frHi a.y b.y s t⟩, ⟨frHi a.x b.x s t, frLo a.y b.y s t⟩, ⟨frHi a.x b.x s t, frHi a.y b.y s t⟩]

theorem index_two (x y : Int) (W : World) : Sem.run Try.prog (Instr.index 127 (.agg #[.int .i64 x, .int .i64 y]) (.int .i64 0)) W = .ok (.int .i64 x) W ∧ Sem.run Try.prog (Instr.index 127 (.agg #[.int .i64 x, .int .i64 y]) (.int .i64 1)) W = .ok (.int .i64 y) W := by
  constructor <;> kernel_rfl
theorem pt_new (W : World) (x y : Int) : ∀ j u, ([.int .i64 x, .int .i64 y] : List Value)[j]? = some u → (W.alloc (.cells #[.int .i64 x, .int .i64 y] 31)).cell? ((⟨W.heap.size, 0, none⟩ : Addr).add j) = some u := by
  have h := Has.new W #[.int .i64 x, .int .i64 y] 31
  exact pt_add (l := [⟨x, y⟩]) (fun j hj => by
    obtain rfl : j = 0 := by simpa using hj
    exact ⟨h.cell (i := 0) rfl, h.cell (i := 1) rfl⟩)

set_option linter.unusedSimpArgs false in
set_option maxRecDepth 4000 in
set_option maxHeartbeats 3000000 in
theorem frame_any (a b : Pt) (s t : Int) (w : World) (pa : placeP a = true) (pb : placeP b = true) (s1 : -2000000000000 ≤ s) (s2 : s ≤ 2000000000000) (t1 : -2000000000000 ≤ t) (t2 : t ≤ 2000000000000) (hne : ¬ s - t = 0) :
    Calls Try.prog 109 #[.agg #[.int .i64 a.x, .int .i64 a.y], .agg #[.int .i64 b.x, .int .i64 b.y], .int .i64 s, .int .i64 t] w (PtsQ (frameP a b s t) w) := by
  obtain ⟨a1, a2, a3, a4⟩ := placeB_true pa
  obtain ⟨b1, b2, b3, b4⟩ := placeB_true pb
  have hA := ((((Below.refl w.heap.size w).alloc (Nat.le_refl _) (.cells #[.int .i64 a.x, .int .i64 a.y] 31)).alloc (by simp) (.cells #[.int .i64 b.x, .int .i64 b.y] 31)).alloc (by simp; omega) (.cells #[.int .i64 s] 3)).alloc (by simp; omega) (.cells #[.int .i64 t] 3)
  have f1 := fun w1 c0 c1 => frame1_any (w.heap.size + 1 + 1) (w.heap.size + 1 + 1 + 1) a.x b.x s t w1 c0 c1 a1 a2 b1 b2 s1 s2 t1 t2 hne
  have f2 := fun w1 c0 c1 => frame1_any (w.heap.size + 1 + 1) (w.heap.size + 1 + 1 + 1) a.y b.y s t w1 c0 c1 a3 a4 b3 b4 s1 s2 t1 t2 hne
  have HF := Lib.hid (And.intro f1 f2)
  have h0 := ((Has.new w #[.int .i64 a.x, .int .i64 a.y] 31).below ((((Below.refl (w.heap.size + 1) _).alloc (by simp) (.cells #[.int .i64 b.x, .int .i64 b.y] 31)).alloc (by simp) (.cells #[.int .i64 s] 3)).alloc (by simp) (.cells #[.int .i64 t] 3)) (by omega))
  have h1 := ((Has.new (w.alloc (.cells #[.int .i64 a.x, .int .i64 a.y] 31)) #[.int .i64 b.x, .int .i64 b.y] 31).below (((Below.refl (w.heap.size + 2) _).alloc (by simp) (.cells #[.int .i64 s] 3)).alloc (by simp) (.cells #[.int .i64 t] 3)) (by simp))
  have h2 := ((Has.new ((w.alloc (.cells #[.int .i64 a.x, .int .i64 a.y] 31)).alloc (.cells #[.int .i64 b.x, .int .i64 b.y] 31)) #[.int .i64 s] 3).below ((Below.refl (w.heap.size + 3) _).alloc (by simp) (.cells #[.int .i64 t] 3)) (by simp))
  have h3 := (Has.new (((w.alloc (.cells #[.int .i64 a.x, .int .i64 a.y] 31)).alloc (.cells #[.int .i64 b.x, .int .i64 b.y] 31)).alloc (.cells #[.int .i64 s] 3)) #[.int .i64 t] 3)
  simp only [World.size_alloc] at h1 h2 h3
  have hsz : ((((w.alloc (.cells #[.int .i64 a.x, .int .i64 a.y] 31)).alloc (.cells #[.int .i64 b.x, .int .i64 b.y] 31)).alloc (.cells #[.int .i64 s] 3)).alloc (.cells #[.int .i64 t] 3)).heap.size = w.heap.size + 4 := by simp
  obtain ⟨i0, hi, hz0', hz1', hz2'⟩ := info_parts ptInfo
  unfold frameP
  generalize frLo a.x b.x s t = xl at *
  generalize frHi a.x b.x s t = xh at *
  generalize frLo a.y b.y s t = yl at *
  generalize frHi a.y b.y s t = yh at *
  clear a1 a2 a3 a4 b1 b2 b3 b4 pa pb f1 f2 s1 s2 t1 t2 hne
  generalize a.x = ax at *
  generalize a.y = ay at *
  generalize b.x = bx at *
  generalize b.y = by' at *
  obtain ⟨W1, hW1⟩ : ∃ W1, ((((w.alloc (.cells #[.int .i64 ax, .int .i64 ay] 31)).alloc (.cells #[.int .i64 bx, .int .i64 by'] 31)).alloc (.cells #[.int .i64 s] 3)).alloc (.cells #[.int .i64 t] 3)) = W1 := ⟨_, rfl⟩
  rw [hW1] at hA h0 h1 h2 h3 hsz
  have HW := Lib.hid hW1
  have HA := Lib.hid h0
  have HB := Lib.hid h1
  have Hs := Lib.hid h2
  have Ht := Lib.hid h3
  have HAA := Lib.hid hA
  have ix0 := fun x y W => (index_two x y W).1
  have ix1 := fun x y W => (index_two x y W).2
  clear h0 h1 h2 h3 hW1 hA
  go_enter Try.func109, Try.ntmps109
  go_upto_region 3 with fail
  rw [HW.out]
  have c0 : W1.cell? ⟨w.heap.size, 0, none⟩ = some (.int .i64 ax) := HA.out.cell (i := 0) rfl
  have c1 : W1.cell? ⟨w.heap.size + 1, 0, none⟩ = some (.int .i64 bx) := HB.out.cell (i := 0) rfl
  go_wp2_with fail
  refine (HF.out.1 _ (Hs.out.cell (i := 0) rfl) (Ht.out.cell (i := 0) rfl)).mono ?_
  rintro e w2 ⟨rfl, hb2⟩
  have HB2 := Lib.hid hb2
  clear c0 c1 hb2
  go_wp2
  go_loopw [10, 22] (fun v i wr => ∃ n : Nat, n ≤ 2 ∧ i = .int .i64 (n : Int) ∧ wr.ownsRow W1.heap.size 31 2 v (2 * n) (ptCells ([⟨xl, yl⟩, ⟨xl, yh⟩, ⟨xh, yl⟩, ⟨xh, yh⟩].take (2 * n))) ∧ Below W1.heap.size W1 wr) (fun _ i _ => 2 - (intOf i).toNat)
  case atStart => exact ⟨0, by omega, rfl, World.ownsRow_nil _ _ _ _, HB2.out⟩
  case round =>
    obtain ⟨n, hn, rfl, hrow, hB⟩ := hrel
    rcases (show n = 0 ∨ n = 1 ∨ n = 2 by omega) with rfl | rfl | rfl
    · have hB' := Lib.hid hB
      have hrow' := Lib.hid hrow
      have hzB := hB.size
      have c0 : wr.cell? ⟨w.heap.size, 1, none⟩ = some (.int .i64 ay) := (HA.out.below hB (by omega)).cell (i := 1) rfl
      have c1 : wr.cell? ⟨w.heap.size + 1, 1, none⟩ = some (.int .i64 by') := (HB.out.below hB (by omega)).cell (i := 1) rfl
      have c2 : wr.cell? ⟨w.heap.size + 1 + 1, 0, none⟩ = some (.int .i64 s) := (Hs.out.below hB (by omega)).cell (i := 0) rfl
      have c3 : wr.cell? ⟨w.heap.size + 1 + 1 + 1, 0, none⟩ = some (.int .i64 t) := (Ht.out.below hB (by omega)).cell (i := 0) rfl
      have hf := Lib.hid (HF.out.2 wr c2 c3)
      clear hB hrow c2 c3
      go_wp2_with fail
      refine hf.out.mono ?_
      rintro e w3 ⟨rfl, hb3⟩
      have hr3 := Lib.hid (prow_below hrow'.out hb3)
      have hB3 := Lib.hid (hB'.out.trans (hb3.mono hB'.out.size))
      clear hb3 c0 c1
      go_wp2
      go_loopw [10, 31] (fun v j wr => ∃ n : Nat, n ≤ 2 ∧ j = .int .i64 (n : Int) ∧ wr.ownsRow W1.heap.size 31 2 v (0 + n) (ptCells ([⟨xl, yl⟩, ⟨xl, yh⟩, ⟨xh, yl⟩, ⟨xh, yh⟩].take (0 + n))) ∧ Below W1.heap.size W1 wr) (fun _ j _ => 2 - (intOf j).toNat)
      case atStart => exact ⟨0, by omega, rfl, hr3.out, hB3.out⟩
      case round =>
        obtain ⟨n, hn, rfl, hrow, hZ⟩ := hrel
        rcases (show n = 0 ∨ n = 1 ∨ n = 2 by omega) with rfl | rfl | rfl
        · have hrow' := Lib.hid hrow
          have BZ := Lib.hid hZ
          have hzz := hZ.size
          clear hrow hZ
          go_wp2_with (at_builtin; refine wpList_append_own _ rfl _ _ 22 rfl W1.heap.size 31 i0 (.agg #[.int .i64 0, .int .i64 0]) 2 16 Try.underlying22 hi hz0' hz1' hz2' rfl (by decide) _ _ _ rfl (hrow'.out.alloc _) ⟨wr.heap.size, 0, none⟩ 1 1 [.int .i64 xl, .int .i64 yl] rfl rfl (pt_new _ _ _) (by simp [Value.oneCell']) (by unfold maxLen; omega) (by omega) (by simp; omega) ?_; intro v' w4 hown' hgrow _)
          go_roundw
          case rel =>
            have hb0 : Below W1.heap.size wr w4 := ((Below.refl W1.heap.size wr).alloc (by omega) _).grown hgrow (by simp; omega) (fun j ej => (hrow'.out.lt j ej).1)
            exact ⟨1, by omega, rfl, hown', BZ.out.trans hb0⟩
          case measure => simp [intOf]
        · have hrow' := Lib.hid hrow
          have BZ := Lib.hid hZ
          have hzz := hZ.size
          clear hrow hZ
          go_wp2_with (at_builtin; refine wpList_append_own _ rfl _ _ 22 rfl W1.heap.size 31 i0 (.agg #[.int .i64 0, .int .i64 0]) 2 16 Try.underlying22 hi hz0' hz1' hz2' rfl (by decide) _ _ _ rfl (hrow'.out.alloc _) ⟨wr.heap.size, 0, none⟩ 1 1 [.int .i64 xl, .int .i64 yh] rfl rfl (pt_new _ _ _) (by simp [Value.oneCell']) (by unfold maxLen; omega) (by omega) (by simp; omega) ?_; intro v' w4 hown' hgrow _)
          go_roundw
          case rel =>
            have hb0 : Below W1.heap.size wr w4 := ((Below.refl W1.heap.size wr).alloc (by omega) _).grown hgrow (by simp; omega) (fun j ej => (hrow'.out.lt j ej).1)
            exact ⟨2, by omega, rfl, hown', BZ.out.trans hb0⟩
          case measure => simp [intOf]
        · have hrow' := Lib.hid hrow
          have BZ := Lib.hid hZ
          clear hrow hZ
          go_wp2
          go_roundw
          case rel => exact ⟨1, by omega, rfl, hrow'.out, BZ.out⟩
          case measure => simp [intOf]
    · have hB' := Lib.hid hB
      have hrow' := Lib.hid hrow
      have hzB := hB.size
      have c0 : wr.cell? ⟨w.heap.size, 1, none⟩ = some (.int .i64 ay) := (HA.out.below hB (by omega)).cell (i := 1) rfl
      have c1 : wr.cell? ⟨w.heap.size + 1, 1, none⟩ = some (.int .i64 by') := (HB.out.below hB (by omega)).cell (i := 1) rfl
      have c2 : wr.cell? ⟨w.heap.size + 1 + 1, 0, none⟩ = some (.int .i64 s) := (Hs.out.below hB (by omega)).cell (i := 0) rfl
      have c3 : wr.cell? ⟨w.heap.size + 1 + 1 + 1, 0, none⟩ = some (.int .i64 t) := (Ht.out.below hB (by omega)).cell (i := 0) rfl
      have hf := Lib.hid (HF.out.2 wr c2 c3)
      clear hB hrow c2 c3
      go_wp2_with fail
      refine hf.out.mono ?_
      rintro e w3 ⟨rfl, hb3⟩
      have hr3 := Lib.hid (prow_below hrow'.out hb3)
      have hB3 := Lib.hid (hB'.out.trans (hb3.mono hB'.out.size))
      clear hb3 c0 c1
      go_wp2
      go_loopw [10, 31] (fun v j wr => ∃ n : Nat, n ≤ 2 ∧ j = .int .i64 (n : Int) ∧ wr.ownsRow W1.heap.size 31 2 v (2 + n) (ptCells ([⟨xl, yl⟩, ⟨xl, yh⟩, ⟨xh, yl⟩, ⟨xh, yh⟩].take (2 + n))) ∧ Below W1.heap.size W1 wr) (fun _ j _ => 2 - (intOf j).toNat)
      case atStart => exact ⟨0, by omega, rfl, hr3.out, hB3.out⟩
      case round =>
        obtain ⟨n, hn, rfl, hrow, hZ⟩ := hrel
        rcases (show n = 0 ∨ n = 1 ∨ n = 2 by omega) with rfl | rfl | rfl
        · have hrow' := Lib.hid hrow
          have BZ := Lib.hid hZ
          have hzz := hZ.size
          clear hrow hZ
          go_wp2_with (at_builtin; refine wpList_append_own _ rfl _ _ 22 rfl W1.heap.size 31 i0 (.agg #[.int .i64 0, .int .i64 0]) 2 16 Try.underlying22 hi hz0' hz1' hz2' rfl (by decide) _ _ _ rfl (hrow'.out.alloc _) ⟨wr.heap.size, 0, none⟩ 1 1 [.int .i64 xh, .int .i64 yl] rfl rfl (pt_new _ _ _) (by simp [Value.oneCell']) (by unfold maxLen; omega) (by omega) (by simp; omega) ?_; intro v' w4 hown' hgrow _)
          go_roundw
          case rel =>
            have hb0 : Below W1.heap.size wr w4 := ((Below.refl W1.heap.size wr).alloc (by omega) _).grown hgrow (by simp; omega) (fun j ej => (hrow'.out.lt j ej).1)
            exact ⟨1, by omega, rfl, hown', BZ.out.trans hb0⟩
          case measure => simp [intOf]
        · have hrow' := Lib.hid hrow
          have BZ := Lib.hid hZ
          have hzz := hZ.size
          clear hrow hZ
          go_wp2_with (at_builtin; refine wpList_append_own _ rfl _ _ 22 rfl W1.heap.size 31 i0 (.agg #[.int .i64 0, .int .i64 0]) 2 16 Try.underlying22 hi hz0' hz1' hz2' rfl (by decide) _ _ _ rfl (hrow'.out.alloc _) ⟨wr.heap.size, 0, none⟩ 1 1 [.int .i64 xh, .int .i64 yh] rfl rfl (pt_new _ _ _) (by simp [Value.oneCell']) (by unfold maxLen; omega) (by omega) (by simp; omega) ?_; intro v' w4 hown' hgrow _)
          go_roundw
          case rel =>
            have hb0 : Below W1.heap.size wr w4 := ((Below.refl W1.heap.size wr).alloc (by omega) _).grown hgrow (by simp; omega) (fun j ej => (hrow'.out.lt j ej).1)
            exact ⟨2, by omega, rfl, hown', BZ.out.trans hb0⟩
          case measure => simp [intOf]
        · have hrow' := Lib.hid hrow
          have BZ := Lib.hid hZ
          clear hrow hZ
          go_wp2
          go_roundw
          case rel => exact ⟨2, by omega, rfl, hrow'.out, BZ.out⟩
          case measure => simp [intOf]
    · have hI := PtsAt.own (l := [⟨xl, yl⟩, ⟨xl, yh⟩, ⟨xh, yl⟩, ⟨xh, yh⟩]) hrow (by simp)
      have HI := Lib.hid hI
      have HX := Lib.hid (HAA.out.trans (hB.mono HAA.out.size))
      clear hI hrow hB
      go_wp2
      go_ret
      exact ⟨_, rfl, HI.out, HX.out⟩
end Go.Proofs.Ytjjkmonfihomnaa
