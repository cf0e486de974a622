/- slices.Clone at points; (*hull.chain).push. -/
import Derived.Lib.SliceRun
import Derived.ArgAppend
import Derived.Test.YtoekcefhphcjjaaBin15
import Derived.Test.YtoekcefhphcjjaaBin16
import Derived.Test.YtoekcefhphcjjaaBin17
import Derived.Test.YtoekcefhphcjjaaBin05
namespace Go.Proofs.Ytoekcefhphcjjaa
open Go.RowKit Go.Shelf
attribute [local irreducible] wpQuiet

set_option maxRecDepth 8000 in
theorem clone_any (v : Value) (l : List Pt) (w : World) (hp : PtsAt w.heap.size w v l) (h0 : 0 < l.length) (hl : l.length ≤ 1000000) :
    Calls Try.prog 77 #[v] w fun e w' => ∃ v', e = .returned v' ∧ w'.ownsRow w.heap.size 38 2 v' l.length (ptCells l) ∧ Below w.heap.size w w' := by
  have hpw := Lib.hid hp
  obtain ⟨_, a, cap, rfl, hc⟩ := hp
  obtain ⟨b, o, rfl, hb, hc⟩ := hc.resolve_left (by intro h; rw [h] at h0; simp at h0)
  have q22 : ∀ (w : World) (a : Option Addr) (n c n' c' : Nat), (binOp .eql 23 (.slice a n c) (.slice none n' c')).run Try.prog w = .ok (.bool a.isNone) w := fun w a n c n' c' => Lib.run_eql_slice_nil w _ _ a n c n' c' Try.underlying23
  have hA := Lib.hid ((Below.refl w.heap.size w).alloc (Nat.le_refl _) (.cells #[] 38))
  have hr := Lib.hid (World.ownsRow_lit (base := w.heap.size) (e := 38) (size := 2) w #[] 0 (Nat.le_refl _) (by unfold maxLen; omega) (by simp))
  have hP := Lib.hid ((hpw.out.below ((Below.refl w.heap.size w).alloc (Nat.le_refl _) (.cells #[] 38))).mono hA.out.size)
  clear hc
  go_enter Try.func77, Try.ntmps77
  go_wp2_with (at_builtin; refine wpList_append_pts rfl _ _ rfl w.heap.size _ 0 [] rfl hr.out _ l rfl hP.out (by omega) hA.out.size ?_; intro v' w2 r2 g2 _)
  have B2 := hA.out.trans (app_below hr.out g2 (Nat.le_refl _) hA.out.size)
  have R2 : w2.ownsRow w.heap.size 38 2 v' l.length (ptCells l) := by simpa using r2
  go_ret
  exact ⟨_, rfl, R2, B2⟩

/-- a row of the call's own, cut shorter -/
theorem row_cut {W : World} {base n m : Nat} {g cap : Nat} {l : List Pt} (h : W.ownsRow base 38 2 (.slice (some ⟨g, 0, none⟩) n cap) n (ptCells l)) (hm : m ≤ n) : W.ownsRow base 38 2 (.slice (some ⟨g, 0, none⟩) m cap) m (ptCells (l.take m)) := by
  have hn : l.length = n := by have := h.1; rw [ptCells_len] at this; omega
  refine ⟨by rw [ptCells_len, List.length_take]; omega, ?_⟩
  rcases h.2 with ⟨h', _⟩ | ⟨g', cap', cur, h', hb, hg, hnc, hcm, hcs, htake⟩
  · simp at h'
  · simp only [Value.slice.injEq, Option.some.injEq, Addr.mk.injEq, and_true, true_and] at h'
    obtain ⟨rfl, rfl⟩ := h'
    refine .inr ⟨g, cap, cur, rfl, hb, hg, by omega, hcm, hcs, ?_⟩
    have e : ptCells l = ptCells (l.take m) ++ ptCells (l.drop m) := by rw [← ptCells_append, List.take_append_drop]
    have e2 : cur.toList.take (m * 2) = (cur.toList.take (n * 2)).take (m * 2) := by rw [List.take_take]; congr 1; omega
    rw [e2, htake, e, List.take_left' (by rw [ptCells_len, List.length_take]; omega)]
theorem row_shape {W : World} {base n : Nat} {v : Value} {e : TypeId} {size : Nat} {xs : List Value} (h : W.ownsRow base e size v n xs) : (v = .slice none 0 0 ∧ n = 0) ∨ ∃ g cap, v = .slice (some ⟨g, 0, none⟩) n cap ∧ n ≤ cap := by
  rcases h.2 with h' | ⟨g, cap, cur, h', _, _, hn, _⟩
  · exact .inl h'
  · exact .inr ⟨g, cap, h', hn⟩
theorem row_some {W : World} {base n : Nat} {v : Value} {e : TypeId} {size : Nat} {xs : List Value} (h : W.ownsRow base e size v n xs) (hn : 0 < n) : ∃ g cap, v = .slice (some ⟨g, 0, none⟩) n cap := by
  rcases row_shape h with ⟨_, h0⟩ | ⟨g, cap, h, _⟩
  · omega
  · exact ⟨g, cap, h⟩
/-- the points of a row of the call's own -/
theorem row_pts {W : World} {base n : Nat} {g cap : Nat} {l : List Pt} (h : W.ownsRow base 38 2 (.slice (some ⟨g, 0, none⟩) n cap) n (ptCells l)) {j : Nat} (hj : j < n) : W.cell? ⟨g, j * 2, none⟩ = some (.int .i64 (nth l j).x) ∧ W.cell? ⟨g, j * 2 + 1, none⟩ = some (.int .i64 (nth l j).y) := by
  have hn : l.length = n := by have := h.1; rw [ptCells_len] at this; omega
  obtain ⟨f0, f1⟩ := ptCells_get l j (by omega)
  exact ⟨(h.cellAt (j * 2) (by omega)).trans f0, (h.cellAt (j * 2 + 1) (by omega)).trans f1⟩
/-- what push leaves -/
structure Pushed (Bc n0 : Nat) (vc : Value) (l : List Pt) (w w' : World) : Prop where
  size : w.heap.size ≤ w'.heap.size
  os : w'.os = w.os
  tape : w'.tape = w.tape
  output : w'.output = w.output
  row : ∃ v', Has w' Bc #[v'] 109 ∧ w'.ownsRow n0 38 2 v' l.length (ptCells l) ∧ (v'.ownBlock = vc.ownBlock ∨ ∃ g, v'.ownBlock = some g ∧ w.heap.size ≤ g)
  kept : ∀ b, b < w.heap.size → b ≠ Bc → vc.ownBlock ≠ some b → w'.heap[b]? = w.heap[b]?

theorem pushed_fin {Bc n0 K : Nat} {vc u v' : Value} {l l' : List Pt} {x : Pt} {w W w4 : World} (hl' : l' = l.take K ++ [x]) (hK : K ≤ l.length) (hob : u.ownBlock = vc.ownBlock) (hne : vc.ownBlock ≠ some Bc) (GX : Has W Bc #[vc] 109) (BX : Below w.heap.size w W) (lB : Bc < w.heap.size)
    (hown' : w4.ownsRow n0 38 2 v' (K + 1) (ptCells (l.take K) ++ [.int .i64 x.x, .int .i64 x.y])) (hgrow : W.grownBy w4 u.ownBlock) (hob' : v'.ownBlock = u.ownBlock ∨ v'.ownBlock = some W.heap.size) : Pushed Bc n0 vc l' w (w4.setCell ⟨Bc, 0, none⟩ v') := by
  have hz := hgrow.size
  have hzB := BX.size
  have GC := GX.kept hgrow (by rw [hob]; exact hne)
  have hown2 : w4.ownsRow n0 38 2 v' l'.length (ptCells l') := by
    rw [hl', ptCells_append, List.length_append, List.length_take, Nat.min_eq_left hK]
    exact hown'
  have nb : v'.ownBlock ≠ some Bc := by
    rcases hob' with h | h
    · rw [h, hob]; exact hne
    · rw [h]; intro h'; cases h'; exact absurd lB (by omega)
  refine ⟨by simp [World.setCell]; omega, hgrow.os.trans BX.os, hgrow.tape.trans BX.tape, hgrow.output.trans BX.output, ⟨v', GC.set 0 v', prow_block hown2 fun g hg => Below.heap_setCell _ _ _ _ (fun h => nb (by rw [hg]; exact congrArg some h)), ?_⟩, fun b hb h1 h2 => ?_⟩
  · rcases hob' with h | h
    · exact .inl (by rw [h, hob])
    · exact .inr ⟨_, h, hzB⟩
  · rw [Below.heap_setCell _ _ _ _ (by exact h1), hgrow.block b (by omega) (fun h => h2 (by rw [← hob]; exact h.symm))]
    exact BX.block b hb

set_option linter.unusedSimpArgs false in
set_option linter.unusedVariables false in
set_option maxRecDepth 8000 in
set_option maxHeartbeats 4000000 in
theorem push_any (Bc n0 : Nat) (vc : Value) (l : List Pt) (x : Pt) (w : World) (hB : Has w Bc #[vc] 109) (hr : w.ownsRow n0 38 2 vc l.length (ptCells l)) (hn0 : n0 ≤ w.heap.size) (hne : vc.ownBlock ≠ some Bc)
    (hl : ∀ k, k < l.length → placeP (nth l k) = true) (hx : placeP x = true) (hsz : l.length ≤ 100000) :
    Calls Try.prog 81 #[.pointer (some ⟨Bc, 0, none⟩), .agg #[.int .i64 x.x, .int .i64 x.y]] w fun e w' => e = .returned (.tuple #[]) ∧ Pushed Bc n0 vc (pushP l x) w w' := by
  obtain ⟨x, y⟩ := x
  have px := placeB_true hx
  simp only at px
  have lB := hB.lt
  have hA := (Below.refl w.heap.size w).alloc (Nat.le_refl _) (.cells #[.int .i64 x, .int .i64 y] 38)
  have hN := Has.new w #[.int .i64 x, .int .i64 y] 38
  have hB1 := hB.below hA lB
  have hr1 := prow_below hr hA
  have b0 := hB1.cell (i := 0) rfl
  have hs1 : w.heap.size < (w.alloc (.cells #[.int .i64 x, .int .i64 y] 38)).heap.size := by simp
  obtain ⟨i0, hi, hz0', hz1', hz2'⟩ := info_parts ptInfo
  obtain ⟨W1, hW1⟩ : ∃ W1, w.alloc (.cells #[.int .i64 x, .int .i64 y] 38) = W1 := ⟨_, rfl⟩
  rw [hW1] at hA hN hB1 hr1 b0 hs1
  have HW := Lib.hid hW1
  have HA := Lib.hid hA
  have HN := Lib.hid hN
  have HB := Lib.hid hB1
  have HR := Lib.hid hr1
  have HL := Lib.hid (fun k hk => placeB_true (hl k hk))
  have hpu : Hid (pushP l ⟨x, y⟩ = l.take (keepN l ⟨x, y⟩ l.length) ++ [⟨x, y⟩]) := rfl
  have hkl := Lib.hid (keepN_le l ⟨x, y⟩ l.length)
  have hsh := row_shape hr1
  clear hW1 hA hN hB1 hr1 hl hx hB hr
  go_enter Try.func81, Try.ntmps81
  go_upto_region 1 with fail
  rw [HW.out]
  go_wp2
  go_loopw [4] (fun v wr => ∃ k : Nat, k ≤ l.length ∧ keepN l ⟨x, y⟩ l.length = keepN l ⟨x, y⟩ k ∧ wr.ownsRow n0 38 2 v k (ptCells (l.take k)) ∧ v.ownBlock = vc.ownBlock ∧ Below W1.heap.size W1 wr) (fun v _ => lenOf v)
  case atStart => exact ⟨l.length, Nat.le_refl _, rfl, by rw [List.take_length]; exact HR.out, rfl, Below.refl _ _⟩
  case round =>
    obtain ⟨k, hk, hkeep, hrow, hob, hBw⟩ := hrel
    have hzB := hBw.size
    have hlen := row_pos hrow
    have N := HN.out.below hBw hs1
    have n0' := Low.fact (N.cell (i := 0) rfl)
    have n1' := Low.fact (N.cell (i := 1) rfl)
    have hsh := row_shape hrow
    have HRW := Lib.hid hrow
    have HBW := Lib.hid hBw
    by_cases h2 : 1 < k
    · obtain ⟨j, rfl⟩ : ∃ j, k = j + 2 := ⟨k - 2, by omega⟩
      obtain ⟨g, cap, rfl, hcap⟩ := hsh.resolve_left (fun h => by omega)
      have hT : ∀ i, i < j + 2 → nth (l.take (j + 2)) i = nth l i := fun i hi => by
        simp [nth, List.getD_eq_getElem?_getD, List.getElem?_take, hi]
      have q := row_pts hrow (j := j) (by omega)
      have q' := row_pts hrow (j := j + 1) (by omega)
      rw [hT j (by omega)] at q
      rw [hT (j + 1) (by omega)] at q'
      have pa := HL.out j (by omega)
      have pb := HL.out (j + 1) (by omega)
      have hstep : keepN l ⟨x, y⟩ (j + 2) = if 0 < j + 1 ∧ turnP (nth l j) (nth l (j + 1)) ⟨x, y⟩ ≤ 0 then keepN l ⟨x, y⟩ (j + 1) else j + 2 := rfl
      obtain ⟨⟨ax, ay⟩, hea⟩ : ∃ t, nth l j = t := ⟨_, rfl⟩
      obtain ⟨⟨bx, by'⟩, heb⟩ : ∃ t, nth l (j + 1) = t := ⟨_, rfl⟩
      rw [hea] at q pa hstep
      rw [heb] at q' pb hstep
      simp only at q q' pa pb
      have ht := Lib.hid (fun w1 => turn_any ax ay bx by' x y w1 (by omega) (by omega) (by omega) (by omega) (by omega) (by omega) (by omega) (by omega) (by omega) (by omega) (by omega) (by omega))
      have htt : turnP ⟨ax, ay⟩ ⟨bx, by'⟩ ⟨x, y⟩ = turnV ax ay bx by' x y := rfl
      rw [htt] at hstep
      obtain ⟨c, hc⟩ : ∃ c, turnV ax ay bx by' x y = c := ⟨_, rfl⟩
      rw [hc] at ht hstep
      have c0 := Low.fact q.1
      have c1 := Low.fact q.2
      have c2 := Low.fact q'.1
      have c3 := Low.fact q'.2
      have d1 : decide (((j + 2 : Nat) : Int) > 1) = true := by simp; omega
      have m1 : IntKind.i64.wrap (((j + 2 : Nat) : Int) - 2) = (j : Int) := by rw [show ((j + 2 : Nat) : Int) - 2 = (j : Int) by omega]; exact IntWalk.i64_in _ (by omega)
      have m2 : IntKind.i64.wrap (((j + 2 : Nat) : Int) - 1) = ((j + 1 : Nat) : Int) := by rw [show ((j + 2 : Nat) : Int) - 1 = ((j + 1 : Nat) : Int) by omega]; exact IntWalk.i64_in _ (by omega)
      obtain ⟨K, hK⟩ : ∃ K : Nat, j + 2 = K := ⟨_, rfl⟩
      obtain ⟨J, hJ⟩ : ∃ J : Nat, j + 1 = J := ⟨_, rfl⟩
      rw [hK] at d1 m1 m2
      rw [hJ] at m2 c2 c3
      have l1 : (j : Int) < (K : Int) := by omega
      have l2 : (0 : Int) ≤ (j : Int) := by omega
      have l3 : (J : Int) < (K : Int) := by omega
      have l4 : (0 : Int) ≤ (J : Int) := by omega
      have l5 : J ≤ K := by omega
      have l6 : J ≤ cap := by omega
      have l7 : (J : Int) ≤ (cap : Int) := by omega
      simp only [hK] at HRW hcap hlen hkeep hob ⊢
      have hnb : (Value.slice (some ⟨g, 0, none⟩) K cap).ownBlock ≠ some Bc := by rw [hob]; exact hne
      have HST := Lib.hid hstep
      clear hea heb hc htt q q' pa pb hstep hT hrow hBw N hsh
      by_cases hcc : c ≤ 0
      · have d2 : decide (c ≤ 0) = true := by simpa using hcc
        go_wp2
        (refine wp_region_low (by kernel_rfl) (by kernel_rfl) ?_; (iterate 20 (apply quiet_want; (case hw => rfl); (case hval => (intro w1 hw1; have hcx := Low.cells hw1; simp only [Oper.quietAt]; go_simp; first | done | (first | (go_at_call 30; exact Low.calls hw1 (ht.out _))) | rfl | exact ⟨rfl, rfl⟩)); simp only [Act.put, List.setIfInBounds_toArray, List.set_cons_zero, List.set_cons_succ])); refine wpQuiet_nil ?_; intro w2 hw2)
        have R2 := Lib.hid (prow_below HRW.out hw2.out)
        have B2 := Lib.hid (HBW.out.trans (hw2.out.mono hzB))
        clear hw2 n0' n1' c0 c1 c2 c3
        go_wp2
        go_roundw
        case rel =>
          refine ⟨J, by omega, ?_, ?_, hob, B2.out⟩
          · rw [hkeep, ← hK, HST.out, if_pos ⟨by omega, hcc⟩, hJ]
          · have := row_cut (m := J) R2.out (by omega)
            rw [List.take_take, Nat.min_eq_left (by omega)] at this
            exact this
        case measure => simp [lenOf]; omega
      · have d2 : decide (c ≤ 0) = false := by simp; omega
        have hfin : keepN l ⟨x, y⟩ l.length = K := by rw [hkeep, ← hK, HST.out, if_neg (fun h => hcc h.2)]
        go_wp2
        (refine wp_region_low (by kernel_rfl) (by kernel_rfl) ?_; (iterate 20 (apply quiet_want; (case hw => rfl); (case hval => (intro w1 hw1; have hcx := Low.cells hw1; simp only [Oper.quietAt]; go_simp; first | done | (first | (go_at_call 30; exact Low.calls hw1 (ht.out _))) | rfl | exact ⟨rfl, rfl⟩)); simp only [Act.put, List.setIfInBounds_toArray, List.set_cons_zero, List.set_cons_succ])); refine wpQuiet_nil ?_; intro w2 hw2)
        have R2 := prow_below HRW.out hw2.out
        have B2 := HBW.out.trans (hw2.out.mono hzB)
        have N2 := HN.out.below B2 hs1
        have z2 := B2.size
        have p0 := N2.cell (i := 0) rfl
        have p1 := N2.cell (i := 1) rfl
        have GB := HB.out.below B2 (by omega)
        have hzc : K ≤ 100000 := by omega
        have AX := (Below.refl w2.heap.size w2).alloc (Nat.le_refl _) (.cells #[.int .i64 x, .int .i64 y] 38)
        have RX := Lib.hid (prow_below R2 AX)
        have GX := Lib.hid (GB.below AX (by omega))
        have sX : (w2.alloc (.cells #[.int .i64 x, .int .i64 y] 38)).heap.size = w2.heap.size + 1 := by simp
        have BX := Lib.hid (HA.out.trans ((B2.mono (by omega)).trans (AX.mono (by omega))))
        clear hw2 n0' n1' N2 GB R2 AX
        go_wp2_with (at_builtin; refine wpList_append_own_at _ rfl _ _ 109 rfl n0 38 i0 (.agg #[.int .i64 0, .int .i64 0]) 2 16 Try.underlying109 hi hz0' hz1' hz2' rfl (by decide) _ _ _ rfl RX.out ⟨w2.heap.size, 0, none⟩ 1 1 [.int .i64 x, .int .i64 y] rfl rfl (pt_new _ _ _) (by simp [Value.oneCell']) (by unfold maxLen; omega) (by omega) (by omega) ?_; intro v' w4 hown' hgrow _ hob'; obtain ⟨ga, ca, rfl⟩ := row_some hown' (by omega); have GC := GX.out.kept hgrow hnb; have gc0 : w4.cell? ⟨Bc, 0, none⟩ = some vc := GC.cell (i := 0) rfl; have gc1 := cells_free GC 0; have FIN := Lib.hid (pushed_fin (hpu.out.trans (by rw [hfin])) (by omega) hob hne GX.out BX.out lB hown' hgrow hob'); clear hown' hgrow GC)
        go_wp2
        go_end0
        exact ⟨rfl, FIN.out⟩
    · have hfin : keepN l ⟨x, y⟩ l.length = k := by
        rw [hkeep]
        rcases (show k = 0 ∨ k = 1 by omega) with rfl | rfl
        · rfl
        · simp [keepN]
      have d1 : decide ((k : Int) > 1) = false := by simp; omega
      obtain ⟨av, cv, hvv⟩ : ∃ av cv, u4 = .slice av k cv := by
        rcases hsh with ⟨h, h0⟩ | ⟨g, cap, h, _⟩
        · exact ⟨none, 0, by rw [h, h0]⟩
        · exact ⟨_, _, h⟩
      obtain ⟨K, hK⟩ : ∃ K : Nat, k = K := ⟨_, rfl⟩
      rw [hK] at hfin d1 HRW hvv
      subst hvv
      have hnb : (Value.slice av K cv).ownBlock ≠ some Bc := by rw [hob]; exact hne
      clear hrow hBw N hsh
      go_wp2
      (refine wp_region_low (by kernel_rfl) (by kernel_rfl) ?_; (iterate 4 (apply quiet_want; (case hw => rfl); (case hval => (intro w1 hw1; have hcx := Low.cells hw1; simp only [Oper.quietAt]; go_simp; first | done | (first | fail) | rfl | exact ⟨rfl, rfl⟩)); simp only [Act.put, List.setIfInBounds_toArray, List.set_cons_zero, List.set_cons_succ])); (iterate 15 (apply quiet_skip; (case hw => rfl); simp only [Act.put, List.setIfInBounds_toArray, List.set_cons_zero, List.set_cons_succ])); (iterate 1 (apply quiet_want; (case hw => rfl); (case hval => (intro w1 hw1; have hcx := Low.cells hw1; simp only [Oper.quietAt]; go_simp; first | done | (first | fail) | rfl | exact ⟨rfl, rfl⟩)); simp only [Act.put, List.setIfInBounds_toArray, List.set_cons_zero, List.set_cons_succ])); refine wpQuiet_nil ?_; intro w2 hw2)
      have R2 := prow_below HRW.out hw2.out
      have B2 := HBW.out.trans (hw2.out.mono hzB)
      have N2 := HN.out.below B2 hs1
      have z2 := B2.size
      have p0 := N2.cell (i := 0) rfl
      have p1 := N2.cell (i := 1) rfl
      have GB := HB.out.below B2 (by omega)
      have hzc : K ≤ 100000 := by omega
      have AX := (Below.refl w2.heap.size w2).alloc (Nat.le_refl _) (.cells #[.int .i64 x, .int .i64 y] 38)
      have RX := Lib.hid (prow_below R2 AX)
      have GX := Lib.hid (GB.below AX (by omega))
      have sX : (w2.alloc (.cells #[.int .i64 x, .int .i64 y] 38)).heap.size = w2.heap.size + 1 := by simp
      have BX := Lib.hid (HA.out.trans ((B2.mono (by omega)).trans (AX.mono (by omega))))
      clear hw2 n0' n1' N2 GB R2 AX
      go_wp2_with (at_builtin; refine wpList_append_own_at _ rfl _ _ 109 rfl n0 38 i0 (.agg #[.int .i64 0, .int .i64 0]) 2 16 Try.underlying109 hi hz0' hz1' hz2' rfl (by decide) _ _ _ rfl RX.out ⟨w2.heap.size, 0, none⟩ 1 1 [.int .i64 x, .int .i64 y] rfl rfl (pt_new _ _ _) (by simp [Value.oneCell']) (by unfold maxLen; omega) (by omega) (by omega) ?_; intro v' w4 hown' hgrow _ hob'; obtain ⟨ga, ca, rfl⟩ := row_some hown' (by omega); have GC := GX.out.kept hgrow hnb; have gc0 : w4.cell? ⟨Bc, 0, none⟩ = some vc := GC.cell (i := 0) rfl; have gc1 := cells_free GC 0; have FIN := Lib.hid (pushed_fin (hpu.out.trans (by rw [hfin])) (by omega) hob hne GX.out BX.out lB hown' hgrow hob'); clear hown' hgrow GC)
      go_wp2
      go_end0
      exact ⟨rfl, FIN.out⟩
end Go.Proofs.Ytoekcefhphcjjaa
