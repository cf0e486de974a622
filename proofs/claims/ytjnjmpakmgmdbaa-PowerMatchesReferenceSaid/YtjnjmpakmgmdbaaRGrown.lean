/- The reference's grown. -/
import Derived.Test.YtjnjmpakmgmdbaaRWay
import Derived.Test.YtjnjmpakmgmdbaaLegs
namespace Go.Proofs.Ytjnjmpakmgmdbaa
open Go.RowKit
attribute [local irreducible] wpQuiet

theorem Low.tr {a b c : World} (h : Low a b) (k : Low b c) : Low a c := h.out.trans (k.out.mono h.out.size)

set_option maxRecDepth 4000 in
set_option maxHeartbeats 1600000 in
theorem rgrown_any (m : Msn) (vw vh vr : Value) (w : World) (hm : legOk m) (hs : 0 ≤ m.start ∧ m.start ≤ 100000) (hw : WaysAt w.heap.size w vw m.ways) (h2 : 2 ≤ m.ways.length) (h41 : m.ways.length ≤ 41) (hwb : waysB m.ways = true) :
    Calls Try.prog 59 #[.agg (msnCells m vw vh vr)] w fun e w' => e = .returned (.int .i64 (grownV m)) ∧ Below w.heap.size w w' := by
  obtain ⟨b, o, cap, rfl, hb, hc2⟩ := hw.cells (by omega)
  have hcH := Lib.hid hc2
  have hwbH := Lib.hid hwb
  have hmH := Lib.hid hm
  have H0 : Has (w.alloc (.cells (msnCells m (.slice (some ⟨b, o, none⟩) m.ways.length (m.ways.length + cap)) vh vr) 26)) w.heap.size (msnCells m (.slice (some ⟨b, o, none⟩) m.ways.length (m.ways.length + cap)) vh vr) 26 := Has.new w _ _
  have H0H := Lib.hid H0
  clear hc2 hwb hm H0 hw
  unfold msnCells
  go_enter Try.func59, Try.ntmps59
  go_wp2
  go_loopw [3, 4] (fun s i wr => ∃ k : Nat, k + 1 ≤ m.ways.length ∧ i = .int .i64 ((k : Int) + 1) ∧ s = .int .i64 (grownTo m k) ∧ Has wr w.heap.size (msnCells m (.slice (some ⟨b, o, none⟩) m.ways.length (m.ways.length + cap)) vh vr) 26 ∧ Below w.heap.size w wr) (fun _ i _ => m.ways.length - (intOf i).toNat)
  case atStart => exact ⟨0, by omega, rfl, rfl, H0H.out, (Below.refl _ _).alloc (Nat.le_refl _) _⟩
  case round =>
    obtain ⟨k, hk, rfl, rfl, H, hB⟩ := hrel
    have cc0 := (msn_cells (m := m) (vh := vh) (vr := vr) H).1
    by_cases hlt : (k : Int) + 1 < (m.ways.length : Int)
    · have hz := hB.size
      have hlt' : k + 1 < m.ways.length := by omega
      have bk := way_back hwbH.out hlt'
      obtain ⟨q, hq⟩ : ∃ q : Nat, (wy m.ways (k + 1)).back = q := ⟨_, (Int.toNat_of_nonneg bk.1).symm⟩
      rw [hq] at bk
      have hql : q < m.ways.length := by omega
      have hg : grownTo m (k + 1) = grownTo m k + (gLeg m k (k + 1) + gLeg m (k + 1) q) := by rw [grownTo, hq]; rfl
      have gb := grownTo_bd hmH.out hs hwbH.out k (by omega)
      have g1 := gLeg_bd hmH.out hwbH.out (i := k) (j := k + 1) (by omega) hlt'
      have g2 := gLeg_bd hmH.out hwbH.out (i := k + 1) (j := q) hlt' hql
      obtain ⟨m1, m2, m3, m4, m5, m6⟩ := hmH.out
      obtain ⟨y1, y2, y3, y4⟩ := way_near hwbH.out (j := k) (by omega)
      obtain ⟨x1, x2, x3, x4⟩ := way_near hwbH.out hlt'
      obtain ⟨r1, r2, r3, r4⟩ := way_near hwbH.out hql
      have hl1 := fun w1 => length_any (wy m.ways k).x (wy m.ways k).y (wy m.ways (k + 1)).x (wy m.ways (k + 1)).y w1 y1 y2 y3 y4 x1 x2 x3 x4
      have hl2 := fun w1 => length_any (wy m.ways (k + 1)).x (wy m.ways (k + 1)).y (wy m.ways q).x (wy m.ways q).y w1 x1 x2 x3 x4 r1 r2 r3 r4
      have d1 := dLeg_bd hwbH.out (i := k) (j := k + 1) (by omega) hlt'
      have d2 := dLeg_bd hwbH.out (i := k + 1) (j := q) hlt' hql
      have hh1 := fun w1 => rgrowth_any m (.slice (some ⟨b, o, none⟩) m.ways.length (m.ways.length + cap)) vh vr (dLeg m k (k + 1)) w1 d1.1 d1.2 m1 m2 m3 m4 m5 m6
      have hh2 := fun w1 => rgrowth_any m (.slice (some ⟨b, o, none⟩) m.ways.length (m.ways.length + cap)) vh vr (dLeg m (k + 1) q) w1 d2.1 d2.2 m1 m2 m3 m4 m5 m6
      change ∀ w1, Calls _ _ _ _ fun e w' => e = .returned (.int .i64 (dLeg m k (k + 1))) ∧ _ at hl1
      change ∀ w1, Calls _ _ _ _ fun e w' => e = .returned (.int .i64 (dLeg m (k + 1) q)) ∧ _ at hl2
      change ∀ w1, Calls _ _ _ _ fun e w' => e = .returned (.int .i64 (gLeg m k (k + 1))) ∧ _ at hh1
      change ∀ w1, Calls _ _ _ _ fun e w' => e = .returned (.int .i64 (gLeg m (k + 1) q)) ∧ _ at hh2
      generalize hd1 : dLeg m k (k + 1) = l1 at hl1 hh1
      generalize hd2 : dLeg m (k + 1) q = l2 at hl2 hh2
      obtain ⟨e1, he1⟩ : ∃ e1, gLeg m k (k + 1) = e1 := ⟨_, rfl⟩
      obtain ⟨e2, he2⟩ : ∃ e2, gLeg m (k + 1) q = e2 := ⟨_, rfl⟩
      obtain ⟨t, ht⟩ : ∃ t, grownTo m k = t := ⟨_, rfl⟩
      rw [he1, he2, ht] at hg
      rw [ht] at gb ⊢
      rw [he1] at g1 hh1
      rw [he2] at g2 hh2
      have a1 : IntKind.i64.wrap (t + e1) = t + e1 := IntWalk.i64_in _ (by omega)
      have a2 : IntKind.i64.wrap (t + e1 + e2) = t + e1 + e2 := IntWalk.i64_in _ (by omega)
      have a3 : IntKind.i64.wrap (k : Int) = k := IntWalk.i64_in _ (by omega)
      obtain ⟨u0, u1, _, _, _⟩ := hcH.out k (by omega)
      obtain ⟨p0, p1, _, _, p4⟩ := hcH.out (k + 1) hlt'
      obtain ⟨v0, v1, _, _, _⟩ := hcH.out q hql
      rw [hq] at p4
      obtain ⟨c0, c1, c2, c3, c4, c5, c6, c7, c8, c9, c10⟩ := msn_low H
      have lu0 := Low.fact ((hB.cell (p := ⟨b, o + k * 5, none⟩) hb).trans u0)
      have lu1 := Low.fact ((hB.cell (p := ⟨b, o + k * 5 + 1, none⟩) hb).trans u1)
      have lp0 := Low.fact ((hB.cell (p := ⟨b, o + (k + 1) * 5, none⟩) hb).trans p0)
      have lp1 := Low.fact ((hB.cell (p := ⟨b, o + (k + 1) * 5 + 1, none⟩) hb).trans p1)
      have lp4 := Low.fact ((hB.cell (p := ⟨b, o + (k + 1) * 5 + 4, none⟩) hb).trans p4)
      have lv0 := Low.fact ((hB.cell (p := ⟨b, o + q * 5, none⟩) hb).trans v0)
      have lv1 := Low.fact ((hB.cell (p := ⟨b, o + q * 5 + 1, none⟩) hb).trans v1)
      have hg' := Lib.hid hg
      have HH := Lib.hid H
      have hl1' := Lib.hid hl1
      have hl2' := Lib.hid hl2
      have hh1' := Lib.hid hh1
      have hh2' := Lib.hid hh2
      have kl : k < m.ways.length := by omega
      have kl' : (k : Int) < (m.ways.length : Int) := by omega
      have k1 : (0 : Int) ≤ (k : Int) + 1 := by omega
      have k2 : ((k : Int) + 1).toNat = k + 1 := by omega
      have ql' : (q : Int) < (m.ways.length : Int) := by omega
      clear u0 u1 p0 p1 p4 v0 v1 hg H hq he1 he2 ht hl1 hl2 hh1 hh2 hd1 hd2 m1 m2 m3 m4 m5 m6 x1 x2 x3 x4 y1 y2 y3 y4 r1 r2 r3 r4
      unfold msnCells at *
      go_wp2
      (refine wp_region_low (by kernel_rfl) (by kernel_rfl) ?_; (iterate 19 (apply quiet_want; (case hw => rfl); (case hval => (intro w1 hw1; have hcx := Low.cells hw1; simp only [Oper.quietAt]; go_simp; first | done | (first | (go_at_call 36; with_reducible exact (Low.calls hw1 (hl1'.out _))) | (go_at_call 38; with_reducible exact (Low.calls hw1 (hh1'.out _)))) | rfl | exact ⟨rfl, rfl⟩)); simp only [Act.put, List.setIfInBounds_toArray, List.set_cons_zero, List.set_cons_succ])); refine wpQuiet_nil ?_; intro w2 hw2)
      obtain ⟨wa, rfl⟩ : ∃ wa, wa = w2 := ⟨_, rfl⟩
      have hwa := hw2
      clear hw2
      replace c0 := fun w1 (h : Low wa w1) => c0 w1 (Low.tr hwa h)
      replace c1 := fun w1 (h : Low wa w1) => c1 w1 (Low.tr hwa h)
      replace c2 := fun w1 (h : Low wa w1) => c2 w1 (Low.tr hwa h)
      replace c3 := fun w1 (h : Low wa w1) => c3 w1 (Low.tr hwa h)
      replace c4 := fun w1 (h : Low wa w1) => c4 w1 (Low.tr hwa h)
      replace c5 := fun w1 (h : Low wa w1) => c5 w1 (Low.tr hwa h)
      replace c6 := fun w1 (h : Low wa w1) => c6 w1 (Low.tr hwa h)
      replace c7 := fun w1 (h : Low wa w1) => c7 w1 (Low.tr hwa h)
      replace c8 := fun w1 (h : Low wa w1) => c8 w1 (Low.tr hwa h)
      replace c9 := fun w1 (h : Low wa w1) => c9 w1 (Low.tr hwa h)
      replace c10 := fun w1 (h : Low wa w1) => c10 w1 (Low.tr hwa h)
      replace lp0 := fun w1 (h : Low wa w1) => lp0 w1 (Low.tr hwa h)
      replace lp1 := fun w1 (h : Low wa w1) => lp1 w1 (Low.tr hwa h)
      replace lp4 := fun w1 (h : Low wa w1) => lp4 w1 (Low.tr hwa h)
      replace lv0 := fun w1 (h : Low wa w1) => lv0 w1 (Low.tr hwa h)
      replace lv1 := fun w1 (h : Low wa w1) => lv1 w1 (Low.tr hwa h)
      have hza := hwa.out.size
      go_wp2
      (refine wp_region_low (by kernel_rfl) (by kernel_rfl) ?_; (iterate 23 (apply quiet_want; (case hw => rfl); (case hval => (intro w1 hw1; have hcx := Low.cells hw1; simp only [Oper.quietAt]; go_simp; first | done | (first | (go_at_call 36; with_reducible exact (Low.calls hw1 (hl2'.out _))) | (go_at_call 38; with_reducible exact (Low.calls hw1 (hh2'.out _)))) | rfl | exact ⟨rfl, rfl⟩)); simp only [Act.put, List.setIfInBounds_toArray, List.set_cons_zero, List.set_cons_succ])); refine wpQuiet_nil ?_; intro w2 hw2)
      have hW := Low.tr hwa hw2
      go_wp2
      go_roundw
      case rel => exact ⟨k + 1, by omega, by go_num, by rw [hg'.out, Int.add_assoc], HH.out.below hW.out HH.out.lt, hB.trans (hW.out.mono hB.size)⟩
      case measure => simp [intOf]; omega
    · obtain rfl : k = m.ways.length - 1 := by omega
      have hms : (((m.ways.length - 1 : Nat) : Int)) = (m.ways.length : Int) - 1 := by omega
      have hd : decide (((m.ways.length - 1 : Nat) : Int) + 1 < (m.ways.length : Int)) = false := by simp; omega
      clear hms
      go_wp2
      go_ret
      exact ⟨rfl, hB⟩
end Go.Proofs.Ytjnjmpakmgmdbaa
