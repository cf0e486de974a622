/- mission.grown -/
import Derived.Test.YtjnjmpakmgmdbaaBetween
import Derived.LoopTactic
namespace Go.Proofs.Ytjnjmpakmgmdbaa
open Go.RowKit
attribute [local irreducible] wpQuiet

set_option maxRecDepth 4000 in
set_option maxHeartbeats 800000 in
theorem grown_any (m : Msn) (vw vh vr : Value) (w : World) (hm : legOk m) (hs : 0 ≤ m.start ∧ m.start ≤ 100000) (hw : WaysAt w.heap.size w vw m.ways) (h2 : 2 ≤ m.ways.length) (h41 : m.ways.length ≤ 41) (hwb : waysB m.ways = true) :
    Calls Try.prog 53 #[.agg (msnCells m vw vh vr)] w fun e w' => e = .returned (.int .i64 (grownV m)) ∧ Below w.heap.size w w' := by
  obtain ⟨hl, a, cap, rfl, hc⟩ := hw
  obtain ⟨b, o, rfl, hb, hc2⟩ : ∃ b o, a = some ⟨b, o, none⟩ ∧ b < w.heap.size ∧ ∀ j, j < m.ways.length → w.cell? ⟨b, o + j * 5, none⟩ = some (.int .i64 (wy m.ways j).x) ∧ w.cell? ⟨b, o + j * 5 + 1, none⟩ = some (.int .i64 (wy m.ways j).y) ∧ w.cell? ⟨b, o + j * 5 + 2, none⟩ = some (.int .i64 (wy m.ways j).fix) ∧ w.cell? ⟨b, o + j * 5 + 3, none⟩ = some (.int .i64 (wy m.ways j).wait) ∧ w.cell? ⟨b, o + j * 5 + 4, none⟩ = some (.int .i64 (wy m.ways j).back) := by
    rcases hc with h0 | h
    · rw [h0] at h2; simp at h2
    · exact h
  have hcH := Lib.hid hc2
  have hwbH := Lib.hid hwb
  have hmH := Lib.hid hm
  clear hc hc2 hwb hm
  have hsz0 : w.heap.size < (w.alloc (.cells #[] 0)).heap.size := by simp
  have H0 : Has (w.alloc (.cells (msnCells m (.slice (some ⟨b, o, none⟩) m.ways.length (m.ways.length + cap)) vh vr) 26)) w.heap.size (msnCells m (.slice (some ⟨b, o, none⟩) m.ways.length (m.ways.length + cap)) vh vr) 26 := Has.new w _ _
  have H0H := Lib.hid H0
  clear H0 hsz0
  unfold msnCells
  go_enter Try.func53, Try.ntmps53
  go_wp2
  go_loopw [3, 12] (fun s i wr => ∃ k : Nat, k ≤ m.ways.length - 1 ∧ i = .int .i64 k ∧ s = .int .i64 (grownTo m k) ∧ Has wr w.heap.size (msnCells m (.slice (some ⟨b, o, none⟩) m.ways.length (m.ways.length + cap)) vh vr) 26 ∧ Below w.heap.size w wr) (fun _ i _ => m.ways.length - 1 - (intOf i).toNat)
  case atStart => exact ⟨0, Nat.zero_le _, rfl, rfl, H0H.out, (Below.refl _ _).alloc (Nat.le_refl _) _⟩
  case round =>
    obtain ⟨k, hk, rfl, rfl, H, hB⟩ := hrel
    have hmsn : (((m.ways.length - 1 : Nat) : Int)) = (m.ways.length : Int) - 1 := by omega
    have hms := Lib.hid hmsn
    clear hmsn
    by_cases hlt : (k : Int) < (m.ways.length : Int) - 1
    · have hz := hB.size
      have hlt' : k + 1 < m.ways.length := by omega
      have bk := way_back hwbH.out hlt'
      obtain ⟨q, hq⟩ : ∃ q : Nat, (wy m.ways (k + 1)).back = q := ⟨_, (Int.toNat_of_nonneg bk.1).symm⟩
      rw [hq] at bk
      have hql : q < m.ways.length := by omega
      have hg : grownTo m (k + 1) = grownTo m k + (gLeg m k (k + 1) + gLeg m (k + 1) q) := by rw [grownTo, hq]; rfl
      have gb := grownTo_bd hmH.out hs hwbH.out k (by omega)
      have g1 := gLeg_bd hmH.out hwbH.out (i := k) (j := k + 1) (by omega) hlt'
      have g2 := gLeg_bd hmH.out hwbH.out (i := k + 1) (j := q) hlt' hql
      have hl1 := fun w1 => leg_any m (.slice (some ⟨b, o, none⟩) m.ways.length (m.ways.length + cap)) vh vr (wy m.ways k).x (wy m.ways k).y (wy m.ways (k + 1)).x (wy m.ways (k + 1)).y w1 hmH.out (way_near hwbH.out (by omega)) (way_near hwbH.out hlt')
      have hl2 := fun w1 => leg_any m (.slice (some ⟨b, o, none⟩) m.ways.length (m.ways.length + cap)) vh vr (wy m.ways (k + 1)).x (wy m.ways (k + 1)).y (wy m.ways q).x (wy m.ways q).y w1 hmH.out (way_near hwbH.out hlt') (way_near hwbH.out hql)
      obtain ⟨e1, he1⟩ : ∃ e1, gLeg m k (k + 1) = e1 := ⟨_, rfl⟩
      obtain ⟨e2, he2⟩ : ∃ e2, gLeg m (k + 1) q = e2 := ⟨_, rfl⟩
      obtain ⟨t, ht⟩ : ∃ t, grownTo m k = t := ⟨_, rfl⟩
      rw [he1, he2, ht] at hg
      rw [ht] at gb ⊢
      rw [he1] at g1
      rw [he2] at g2
      unfold gLeg dLeg at he1 he2
      unfold legVal at hl1 hl2
      rw [he1] at hl1
      rw [he2] at hl2
      have a1 : IntKind.i64.wrap (e1 + e2) = e1 + e2 := IntWalk.i64_in _ (by omega)
      have a2 : IntKind.i64.wrap (t + (e1 + e2)) = t + (e1 + e2) := IntWalk.i64_in _ (by omega)
      obtain ⟨u0, u1, _, _, _⟩ := hcH.out k (by omega)
      obtain ⟨p0, p1, p2, p3, p4⟩ := hcH.out (k + 1) hlt'
      obtain ⟨v0, v1, _, _, _⟩ := hcH.out q hql
      rw [hq] at p4
      have ar : o + (k + 1) * 5 = o + 5 + k * 5 := by omega
      rw [ar] at p0 p1 p2 p3 p4
      obtain ⟨W2, hW2⟩ : ∃ W2, wr.alloc (.cells #[.int .i64 (wy m.ways (k + 1)).x, .int .i64 (wy m.ways (k + 1)).y, .int .i64 (wy m.ways (k + 1)).fix, .int .i64 (wy m.ways (k + 1)).wait, .int .i64 (q : Int)] 40) = W2 := ⟨_, rfl⟩
      have hA : Below wr.heap.size wr W2 := by rw [← hW2]; exact (Below.refl _ wr).alloc (Nat.le_refl _) _
      have H2 := H.below hA H.lt
      have N2 : Has W2 wr.heap.size #[.int .i64 (wy m.ways (k + 1)).x, .int .i64 (wy m.ways (k + 1)).y, .int .i64 (wy m.ways (k + 1)).fix, .int .i64 (wy m.ways (k + 1)).wait, .int .i64 (q : Int)] 40 := by rw [← hW2]; exact Has.new wr _ _
      have hB2 : Below w.heap.size w W2 := hB.trans (hA.mono hB.size)
      obtain ⟨c0, c1, c2, c3, c4, c5, c6, c7, c8, c9, c10⟩ := msn_low H2
      have n0 := Low.fact (N2.cell (i := 0) rfl)
      have n1 := Low.fact (N2.cell (i := 1) rfl)
      have n4 := Low.fact (N2.cell (i := 4) rfl)
      have lu0 := Low.fact ((hB2.cell (p := ⟨b, o + k * 5, none⟩) hb).trans u0)
      have lu1 := Low.fact ((hB2.cell (p := ⟨b, o + k * 5 + 1, none⟩) hb).trans u1)
      have lv0 := Low.fact ((hB2.cell (p := ⟨b, o + q * 5, none⟩) hb).trans v0)
      have lv1 := Low.fact ((hB2.cell (p := ⟨b, o + q * 5 + 1, none⟩) hb).trans v1)
      have p0' := (hB.cell (p := ⟨b, o + 5 + k * 5, none⟩) hb).trans p0
      have p1' := (hB.cell (p := ⟨b, o + 5 + k * 5 + 1, none⟩) hb).trans p1
      have p2' := (hB.cell (p := ⟨b, o + 5 + k * 5 + 2, none⟩) hb).trans p2
      have p3' := (hB.cell (p := ⟨b, o + 5 + k * 5 + 3, none⟩) hb).trans p3
      have p4' := (hB.cell (p := ⟨b, o + 5 + k * 5 + 4, none⟩) hb).trans p4
      have hz2 := hA.size
      have hW2' := Lib.hid hW2
      have hg' := Lib.hid hg
      have HH := Lib.hid H2
      have hHl : w.heap.size + 1 ≤ wr.heap.size := H.lt
      have hl1' := Lib.hid hl1
      have hl2' := Lib.hid hl2
      clear u0 u1 p0 p1 p2 p3 p4 v0 v1 ar hg hW2 N2 H2 H hq he1 he2 ht hl1 hl2
      unfold msnCells at *
      go_wp2
      rw [hW2'.out]
      have kl : k < m.ways.length := by omega
      have kl' : (k : Int) < (m.ways.length : Int) := by omega
      have ql' : (q : Int) < (m.ways.length : Int) := by omega
      (refine wp_region_low (by kernel_rfl) (by kernel_rfl) ?_; (iterate 27 (apply quiet_want; (case hw => rfl); (case hval => (intro w1 hw1; have hcx := Low.cells hw1; simp only [Oper.quietAt]; go_simp; first | done | (first | (go_at_call 34; with_reducible exact Low.calls hw1 (hl1'.out _)) | (go_at_call 34; with_reducible exact Low.calls hw1 (hl2'.out _))) | rfl | exact ⟨rfl, rfl⟩)); simp only [Act.put, List.setIfInBounds_toArray, List.set_cons_zero, List.set_cons_succ])); refine wpQuiet_nil ?_; intro w2 hw2)
      go_wp2
      go_roundw
      case rel => exact ⟨k + 1, by omega, by go_num, by rw [hg'.out], HH.out.below hw2.out (by omega), hB2.trans (hw2.out.mono hB2.size)⟩
      case measure => simp [intOf]; omega
    · obtain rfl : k = m.ways.length - 1 := by omega
      go_wp2
      go_ret
      exact ⟨rfl, hB⟩
end Go.Proofs.Ytjnjmpakmgmdbaa
