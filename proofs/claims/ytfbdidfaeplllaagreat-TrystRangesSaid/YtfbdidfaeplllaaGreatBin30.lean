/- landfallref38: Meets, Ways, Same. | The head of the laws of layer 38. | landfalllaw38.few; landfallref03.Few. -/
import Derived.Test.YtfbdidfaeplllaaGreatBin03
import Derived.Test.YtfbdidfaeplllaaGreatBin26
import Derived.Test.YtfbdidfaeplllaaGreatBin20
import Derived.Test.YtfbdidfaeplllaaGreatBin13
import Derived.Test.YtfbdidfaeplllaaGreatBin06
import Derived.Test.YtfbdidfaeplllaaGreatBin22
import Derived.Test.YtfbdidfaeplllaaGreatBin27
import Derived.Test.YtfbdidfaeplllaaGreatBin29
import Derived.Test.YtfbdidfaeplllaaGreatBin28
import Derived.Test.YtfbdidfaeplllaaGreatBin21
namespace Go.Proofs.YtfbdidfaeplllaaGreat
open Go.RowKit
attribute [local irreducible] wpQuiet



set_option linter.unusedSimpArgs false in
set_option linter.unusedVariables false in
set_option maxRecDepth 8000 in
set_option maxHeartbeats 1600000 in
theorem same38_any (R Wt : Int) (L : List (Nat × Nat)) (va vb : Value) (w : World) (ha : RowAt 4 w.heap.size w va (trRows R Wt L)) (hb : RowAt 4 w.heap.size w vb (trRows R Wt L)) :
    Calls Tryz.prog 39 #[va, vb] w fun e w' => e = .returned (.bool true) ∧ Below w.heap.size w w' := by
  have hn : (trRows R Wt L).length = L.length := by simp [trRows]
  obtain ⟨hla, aa, ca, rfl, hca⟩ := ha
  obtain ⟨-, ab, cb, rfl, hcb⟩ := hb
  rw [hn] at *
  have HNN := Lib.hid (show (trRows R Wt L).length = L.length by simp [trRows])
  have HCA := Lib.hid hca
  have HCB := Lib.hid hcb
  have B0 := Lib.hid (Below.refl w.heap.size w)
  have dn : ((L.length : Int) != (L.length : Int)) = false := by simp
  clear hca hcb
  go_enter Tryz.func39, Tryz.ntmps39
  go_wp2
  go_loopw [5] (fun i wr => ∃ k : Nat, k ≤ L.length ∧ i = .int .i64 (k : Int) ∧ Below w.heap.size w wr) (fun i _ => L.length - (intOf i).toNat)
  case atStart => exact ⟨0, by omega, rfl, Below.refl _ _⟩
  case round =>
    obtain ⟨k, hk, rfl, hB⟩ := hrel
    by_cases hlt : k < L.length
    · have dk : decide ((k : Int) < (L.length : Int)) = true := by rw [decide_eq_true_eq]; omega
      have hne : trRows R Wt L ≠ [] := by intro h; have e := HNN.out; rw [h] at e; simp at e; omega
      obtain ⟨b1, o1, rfl, hb1, hc1⟩ := HCA.out.resolve_left hne
      obtain ⟨b2, o2, rfl, hb2, hc2⟩ := HCB.out.resolve_left hne
      have hg : (trRows R Wt L)[k]? = some (tryC (L[k].1) (L[k].2) R Wt).toList := by simp [trRows, hlt]
      generalize L[k].1 = p at *
      generalize L[k].2 = q at *
      have p0 := Low.fact ((hB.cell (p := ⟨b1, o1 + k * 4 + 0, none⟩) hb1).trans (hc1 k _ hg 0 _ rfl))
      have p1 := Low.fact ((hB.cell (p := ⟨b1, o1 + k * 4 + 1, none⟩) hb1).trans (hc1 k _ hg 1 _ rfl))
      have p2 := Low.fact ((hB.cell (p := ⟨b1, o1 + k * 4 + 2, none⟩) hb1).trans (hc1 k _ hg 2 _ rfl))
      have p3 := Low.fact ((hB.cell (p := ⟨b1, o1 + k * 4 + 3, none⟩) hb1).trans (hc1 k _ hg 3 _ rfl))
      have q0 := Low.fact ((hB.cell (p := ⟨b2, o2 + k * 4 + 0, none⟩) hb2).trans (hc2 k _ hg 0 _ rfl))
      have q1 := Low.fact ((hB.cell (p := ⟨b2, o2 + k * 4 + 1, none⟩) hb2).trans (hc2 k _ hg 1 _ rfl))
      have q2 := Low.fact ((hB.cell (p := ⟨b2, o2 + k * 4 + 2, none⟩) hb2).trans (hc2 k _ hg 2 _ rfl))
      have q3 := Low.fact ((hB.cell (p := ⟨b2, o2 + k * 4 + 3, none⟩) hb2).trans (hc2 k _ hg 3 _ rfl))
      rw [Nat.add_zero] at p0 q0
      have kl : (k : Int) < L.length := by omega
      have k0 : (0 : Int) ≤ k := by omega
      have HBk := Lib.hid hB
      have hzB := hB.size
      clear hc1 hc2 hg hB hne
      go_wp2
      (refine wp_region_low (by kernel_rfl) (by kernel_rfl) ?_; (iterate 9 (apply quiet_want; (case hw => rfl); (case hval => (intro w1 hw1; have hcx := Low.cells hw1; simp only [Oper.quietAt]; go_simp; first | done | (first | fail) | rfl | exact ⟨rfl, rfl⟩)); simp only [Act.put, List.setIfInBounds_toArray, List.set_cons_zero, List.set_cons_succ])); refine wpQuiet_nil ?_; intro w2 hw2)
      have BZ := Lib.hid (HBk.out.trans (hw2.out.mono hzB))
      clear hw2 p0 p1 p2 p3 q0 q1 q2 q3
      go_wp2
      go_roundw
      case rel => exact ⟨k + 1, by omega, by go_num, BZ.out⟩
      case measure => simp [intOf]; omega
    · obtain rfl : k = L.length := by omega
      have dk : decide ((L.length : Int) < (L.length : Int)) = false := by simp
      have HBk := Lib.hid hB
      clear hB
      go_wp2
      go_ret
      exact ⟨rfl, HBk.out⟩

end Go.Proofs.YtfbdidfaeplllaaGreat

namespace Go.Proofs.YtfbdidfaeplllaaGreat
open Go.RowKit
attribute [local irreducible] wpQuiet

theorem root_of {s n : Int} (h0 : 0 ≤ n) (h : s ≤ n * n) (h2 : (n - 1) * (n - 1) < s) (h3 : 0 ≤ s) : rootUp s = n := by
  have hs := rootUp_spec (s := s) h3
  have h1 := hs.2.2 n h0 h
  rcases Int.lt_or_le (rootUp s) n with h3 | h3
  · have h4 := Int.mul_le_mul (show rootUp s ≤ n - 1 by omega) (show rootUp s ≤ n - 1 by omega) hs.1 (by omega)
    have := hs.2.1
    omega
  · omega
theorem valid_one {p : Pt} (h : placeP p = true) : goValid [p] = true := by rw [goValid_one]; exact h
theorem range_one (p q : Pt) (hp : placeP p = true) (hq : placeP q = true) {n : Int} (h0 : 0 ≤ n) (h : dsq p q ≤ n * n) (h2 : (n - 1) * (n - 1) < dsq p q) : rangeV [p] [q] = n := by
  have e : reachK [p] [q] [p].length = dsq p q := by
    have := (dsq_bd hp hq).2.2.2.2.2.1
    show (if (0 : Int) < (if 0 < dsq p q then dsq p q else 0) then (if 0 < dsq p q then dsq p q else 0) else 0) = dsq p q
    by_cases h : 0 < dsq p q
    · simp [h]
    · have h4 : dsq p q = 0 := by omega
      simp [h4]
  simp only [rangeV, trB, valid_one hp, valid_one hq, Bool.and_self, if_true, e]
  exact root_of h0 h h2 (dsq_bd hp hq).2.2.2.2.2.1
theorem ex_range : rangeV [⟨0, 0⟩] [⟨3, 4⟩, ⟨5, 12⟩] = 13 ∧ rangeE [⟨0, 0⟩] [⟨3, 4⟩, ⟨5, 12⟩] = 0 := by
  have g1 : goValid [⟨0, 0⟩] = true := valid_one (by decide)
  have g2 : goValid [⟨3, 4⟩, ⟨5, 12⟩] = true := by
    simp only [goValid, decide_eq_true_eq]
    refine ⟨by decide, by decide, fun k hk => ?_, fun h => absurd h (by decide)⟩
    rcases (show k = 0 ∨ k = 1 by simp at hk; omega) with rfl | rfl
    · exact ⟨by decide, fun h => by omega⟩
    · exact ⟨by decide, fun _ => by decide⟩
  have e : reachK [⟨0, 0⟩] [⟨3, 4⟩, ⟨5, 12⟩] [(⟨0, 0⟩ : Pt)].length = 169 := by decide
  simp only [rangeV, rangeE, trB, g1, g2, Bool.and_self, if_true, e]
  exact ⟨root_of (by decide) (by decide) (by decide) (by decide), trivial⟩
theorem ex_none (l : List Pt) : rangeV [] l = 0 ∧ rangeE [] l = 1 := by
  have g : goValid [] = false := by simp [goValid, GoValid]
  simp [rangeV, rangeE, trB, g]
/-- a mission of the chapter -/
def exT (x y u v : Int) : Msn := ⟨[⟨x, y, 0, 0, 0⟩, ⟨u, v, 0, 0, 0⟩], [⟨x, y⟩], 0, [], 1000, 0, 0, 0, 0, 0, 0⟩
theorem exT_at {W : World} {a b : Nat} {x y u v : Int} (h1 : Has W a #[.int .i64 x, .int .i64 y, .int .i64 0, .int .i64 0, .int .i64 0, .int .i64 u, .int .i64 v, .int .i64 0, .int .i64 0, .int .i64 0] 40)
    (h2 : Has W b #[.int .i64 x, .int .i64 y] 31) : MsnAt W.heap.size W (exT x y u v) (.slice (some ⟨a, 0, none⟩) 2 2) (.slice (some ⟨b, 0, none⟩) 1 1) (.slice none 0 0) := by
  refine ⟨⟨by simp [exT], some ⟨a, 0, none⟩, 0, rfl, .inr ⟨a, 0, rfl, h1.lt, fun j hj => ?_⟩⟩, ⟨by simp [exT], some ⟨b, 0, none⟩, 0, rfl, .inr ⟨b, 0, rfl, h2.lt, fun j hj => ?_⟩⟩, ⟨by simp [exT], none, 0, by simp [exT], .inl rfl⟩⟩
  · rcases (show j = 0 ∨ j = 1 by simp [exT] at hj; omega) with rfl | rfl
    · exact ⟨h1.cell (i := 0) rfl, h1.cell (i := 1) rfl, h1.cell (i := 2) rfl, h1.cell (i := 3) rfl, h1.cell (i := 4) rfl⟩
    · exact ⟨h1.cell (i := 5) rfl, h1.cell (i := 6) rfl, h1.cell (i := 7) rfl, h1.cell (i := 8) rfl, h1.cell (i := 9) rfl⟩
  · obtain rfl : j = 0 := by simp [exT] at hj; omega
    exact ⟨h2.cell (i := 0) rfl, h2.cell (i := 1) rfl⟩
theorem exT_dist : (dLeg (exT 0 0 0 500) 0 1 = 500 ∧ dLeg (exT 0 0 0 500) 1 0 = 500) ∧ dLeg (exT 100 0 100 900) 0 1 = 900 ∧ dLeg (exT 100 0 100 900) 1 0 = 900 :=
  ⟨⟨rdist_of (by decide) (by decide) (by decide), rdist_of (by decide) (by decide) (by decide)⟩, rdist_of (by decide) (by decide) (by decide), rdist_of (by decide) (by decide) (by decide)⟩
theorem exT_legs {x y u v n : Int} (d1 : dLeg (exT x y u v) 0 1 = n) (d2 : dLeg (exT x y u v) 1 0 = n) (hg : growthV 1000 0 0 n = 0) : gLeg (exT x y u v) 0 1 = 0 ∧ gLeg (exT x y u v) 1 0 = 0 ∧ grownV (exT x y u v) = 0 := by
  have g1 : gLeg (exT x y u v) 0 1 = 0 := by unfold gLeg; rw [d1]; exact hg
  have g2 : gLeg (exT x y u v) 1 0 = 0 := by unfold gLeg; rw [d2]; exact hg
  refine ⟨g1, g2, ?_⟩
  show (exT x y u v).start + (gLeg (exT x y u v) 0 1 + gLeg (exT x y u v) 1 0) = 0
  rw [g1, g2]; rfl
theorem exT_valid {x y u v n : Int} (d1 : dLeg (exT x y u v) 0 1 = n) (d2 : dLeg (exT x y u v) 1 0 = n) (hg : growthV 1000 0 0 n = 0) (hw : waysB (exT x y u v).ways = true) (hp : placeP ⟨x, y⟩ = true) : validB (exT x y u v) = true := by
  rw [validB_iff]
  have hG := (exT_legs d1 d2 hg).2.2
  refine ⟨by simp [exT], by simp [exT], by simp [exT], hw, valid_one hp, ?_, by simp [exT], by unfold legOk; simp [exT], by simp [exT], by simp [exT], by simp [exT], by simp [exT], by rw [hG]; decide⟩
  simp [rocksB, exT]
theorem exT_ok {x y u v n : Int} (d1 : dLeg (exT x y u v) 0 1 = n) (d2 : dLeg (exT x y u v) 1 0 = n) (hg : growthV 1000 0 0 n = 0) (hw : waysB (exT x y u v).ways = true) (hp : placeP ⟨x, y⟩ = true) :
    (radOkB (exT x y u v) [] = true ∧ radOkB (exT x y u v) [1] = false) ∧ dskP (exT x y u v) [] 0 = [⟨x, y⟩] ∧ dskP (exT x y u v) [] 1 = [⟨u, v⟩] := by
  have V := exT_valid d1 d2 hg hw hp
  have h0 : stopsB (exT x y u v) [] = true := by simp [stopsB]
  have h1 : stopsB (exT x y u v) [1] = false := by simp [stopsB, stopOk, exT, wy]
  obtain ⟨g1, -, -⟩ := exT_legs d1 d2 hg
  have a0 : rdA (exT x y u v) [] 0 = 0 := rfl
  have a1 : rdA (exT x y u v) [] 1 = 0 := by
    rw [rdA_succ, rdB_succ, g1, a0]; simp
  refine ⟨⟨by simp [radOkB, V, h0], by simp [radOkB, V, h1]⟩, ?_, ?_⟩
  · unfold dskP; rw [a0, show (0 : Int).toNat = 0 from rfl, disk_0]; simp [mvL, mvP, exT, wy]
  · unfold dskP; rw [a1, show (0 : Int).toNat = 0 from rfl, disk_0]; simp [mvL, mvP, exT, wy]
theorem exM_ok : (radOkB (exT 0 0 0 500) [] = true ∧ radOkB (exT 0 0 0 500) [1] = false) ∧ dskP (exT 0 0 0 500) [] 0 = [⟨0, 0⟩] ∧ dskP (exT 0 0 0 500) [] 1 = [⟨0, 500⟩] := exT_ok exT_dist.1.1 exT_dist.1.2 (by decide) (by decide) (by decide)
theorem exO_ok : (radOkB (exT 100 0 100 900) [] = true ∧ radOkB (exT 100 0 100 900) [1] = false) ∧ dskP (exT 100 0 100 900) [] 0 = [⟨100, 0⟩] ∧ dskP (exT 100 0 100 900) [] 1 = [⟨100, 900⟩] := exT_ok exT_dist.2.1 exT_dist.2.2 (by decide) (by decide) (by decide)
theorem exT_time : usT (exT 0 0 0 500) [] 1 = 50 ∧ usT (exT 100 0 100 900) [] 1 = 90 := by
  constructor
  · show usT (exT 0 0 0 500) [] 0 + waitT (exT 0 0 0 500) [] 0 + tLeg (exT 0 0 0 500) 0 1 = 50
    unfold tLeg
    rw [exT_dist.1.1]
    decide
  · show usT (exT 100 0 100 900) [] 0 + waitT (exT 100 0 100 900) [] 0 + tLeg (exT 100 0 100 900) 0 1 = 90
    unfold tLeg
    rw [exT_dist.2.1]
    decide
theorem ex_ranges : rangeV [⟨0, 0⟩] [⟨100, 0⟩] = 100 ∧ rangeV [⟨0, 0⟩] [⟨100, 900⟩] = 906 ∧ rangeV [⟨0, 500⟩] [⟨100, 0⟩] = 510 ∧ rangeV [⟨0, 500⟩] [⟨100, 900⟩] = 413 :=
  ⟨range_one _ _ (by decide) (by decide) (by decide) (by decide) (by decide), range_one _ _ (by decide) (by decide) (by decide) (by decide) (by decide), range_one _ _ (by decide) (by decide) (by decide) (by decide) (by decide), range_one _ _ (by decide) (by decide) (by decide) (by decide) (by decide)⟩
theorem ex_meet (R W : Int) : meetB (exT 0 0 0 500) [] (exT 100 0 100 900) [] 0 0 R W = (decide (100 ≤ R) && (decide (0 ≤ W) && decide (0 ≤ W))) ∧ meetB (exT 0 0 0 500) [] (exT 100 0 100 900) [] 0 1 R W = (decide (906 ≤ R) && (decide (-90 ≤ W) && decide (90 ≤ W)))
    ∧ meetB (exT 0 0 0 500) [] (exT 100 0 100 900) [] 1 0 R W = (decide (510 ≤ R) && (decide (50 ≤ W) && decide (-50 ≤ W))) ∧ meetB (exT 0 0 0 500) [] (exT 100 0 100 900) [] 1 1 R W = (decide (413 ≤ R) && (decide (-40 ≤ W) && decide (40 ≤ W))) := by
  unfold meetB
  rw [exM_ok.2.1, exM_ok.2.2, exO_ok.2.1, exO_ok.2.2, ex_ranges.1, ex_ranges.2.1, ex_ranges.2.2.1, ex_ranges.2.2.2, exT_time.1, exT_time.2]
  exact ⟨rfl, rfl, rfl, rfl⟩
theorem ex_ask (R : Int) (h : 0 ≤ R ∧ R ≤ 100000) : askB (exT 0 0 0 500) [] (exT 100 0 100 900) [] 0 0 R 0 = true := by
  unfold askB
  rw [exM_ok.1.1, exO_ok.1.1]
  simp [numB, exT, h.1, h.2]
theorem ex_m1 : (askB (exT 0 0 0 500) [] (exT 100 0 100 900) [] 0 0 100 0 && meetB (exT 0 0 0 500) [] (exT 100 0 100 900) [] (0 : Int).toNat (0 : Int).toNat 100 0) = true := by
  rw [ex_ask 100 (by decide), show (0 : Int).toNat = 0 from rfl, (ex_meet 100 0).1]; decide
theorem ex_m2 : (askB (exT 0 0 0 500) [] (exT 100 0 100 900) [] 0 0 99 0 && meetB (exT 0 0 0 500) [] (exT 100 0 100 900) [] (0 : Int).toNat (0 : Int).toNat 99 0) = false := by
  rw [ex_ask 99 (by decide), show (0 : Int).toNat = 0 from rfl, (ex_meet 99 0).1]; decide
theorem ex_w1 : waskB (exT 0 0 0 500) [] (exT 100 0 100 900) [] 450 40 = true := by
  unfold waskB
  rw [exM_ok.1.1, exO_ok.1.1]
  simp [numB]
theorem ex_w2 : waskB (exT 0 0 0 500) [1] (exT 100 0 100 900) [] 450 40 = false := by
  unfold waskB
  rw [exM_ok.1.2]
  simp
theorem ex_l1 : trL (exT 0 0 0 500) [] (exT 100 0 100 900) [] 450 40 = [(0, 0), (1, 1)] := by
  rw [trL, if_pos ex_w1]
  show List.filter _ [(0, 0), (0, 1), (1, 0), (1, 1)] = _
  simp only [List.filter_cons, List.filter_nil, (ex_meet 450 40).1, (ex_meet 450 40).2.1, (ex_meet 450 40).2.2.1, (ex_meet 450 40).2.2.2]
  decide
theorem at38_any (x y : Int) (w : World) :
    Calls Tryz.prog 18 #[.int .i64 x, .int .i64 y] w fun e w' => e = .returned (.agg #[.int .i64 x, .int .i64 y]) ∧ Below w.heap.size w w' := by
  go_enter Tryz.func18, Tryz.ntmps18
  go_wp2
  exact bodyPost_ret (v := .agg #[.int .i64 x, .int .i64 y]) (by simp [results, Tryz.f18, go_sem]) rfl ⟨rfl, by repeat (first | exact Below.refl _ _ | assumption | apply Below.drew | refine Below.setCell ?_ (by first | omega | (simp; done) | (simp; omega)) _ | refine Below.alloc ?_ (by first | omega | (simp; done) | (simp; omega)) _ | refine Below.call (by assumption) ?_ (by first | omega | (simp; done) | (simp; omega)))⟩
set_option linter.unusedSimpArgs false in
set_option linter.unusedVariables false in
set_option maxRecDepth 8000 in
set_option maxHeartbeats 4000000 in
theorem head38_any (w : World) : Calls Tryz.prog 12 #[] w fun e w' => e = .returned (.bool true) ∧ Below w.heap.size w w' := by
  have f1 := fun u v w1 h1 h2 => range_any u v [⟨0, 0⟩] [⟨3, 4⟩, ⟨5, 12⟩] w1 h1 h2
  rw [ex_range.1, ex_range.2] at f1
  have f1 := Lib.hid f1
  have f2 := fun v w1 h2 => range_any (.slice none 0 0) v [] [⟨0, 0⟩] w1 (PtsAt.nil _ _) h2
  rw [(ex_none _).1, (ex_none _).2] at f2
  have f2 := Lib.hid f2
  have f3 := fun a b c d w1 h1 h2 => tmeets_any (exT 0 0 0 500) (exT 100 0 100 900) (.slice (some ⟨a, 0, none⟩) 2 2) (.slice (some ⟨b, 0, none⟩) 1 1) (.slice none 0 0) (.slice none 0 0) (.slice (some ⟨c, 0, none⟩) 2 2) (.slice (some ⟨d, 0, none⟩) 1 1) (.slice none 0 0) (.slice none 0 0) [] [] 0 0 100 0 w1 h1 (IntsAt.nil _ _) h2 (IntsAt.nil _ _)
  rw [ex_m1, ex_ask 100 (by decide), show errB true = 0 from rfl] at f3
  have f3 := Lib.hid f3
  have f4 := fun a b c d w1 h1 h2 => tmeets_any (exT 0 0 0 500) (exT 100 0 100 900) (.slice (some ⟨a, 0, none⟩) 2 2) (.slice (some ⟨b, 0, none⟩) 1 1) (.slice none 0 0) (.slice none 0 0) (.slice (some ⟨c, 0, none⟩) 2 2) (.slice (some ⟨d, 0, none⟩) 1 1) (.slice none 0 0) (.slice none 0 0) [] [] 0 0 99 0 w1 h1 (IntsAt.nil _ _) h2 (IntsAt.nil _ _)
  rw [ex_m2, ex_ask 99 (by decide), show errB true = 0 from rfl] at f4
  have f4 := Lib.hid f4
  have f5 := fun a b c d w1 h1 h2 => tways_any (exT 0 0 0 500) (exT 100 0 100 900) (.slice (some ⟨a, 0, none⟩) 2 2) (.slice (some ⟨b, 0, none⟩) 1 1) (.slice none 0 0) (.slice none 0 0) (.slice (some ⟨c, 0, none⟩) 2 2) (.slice (some ⟨d, 0, none⟩) 1 1) (.slice none 0 0) (.slice none 0 0) [] [] 450 40 w1 h1 (IntsAt.nil _ _) h2 (IntsAt.nil _ _)
  rw [ex_l1, ex_w1, show errB true = 0 from rfl] at f5
  have f5 := Lib.hid f5
  have f6 := fun a b c d e w1 h1 h2 h3 => tways_any (exT 0 0 0 500) (exT 100 0 100 900) (.slice (some ⟨a, 0, none⟩) 2 2) (.slice (some ⟨b, 0, none⟩) 1 1) (.slice none 0 0) (.slice (some ⟨e, 0, none⟩) 1 1) (.slice (some ⟨c, 0, none⟩) 2 2) (.slice (some ⟨d, 0, none⟩) 1 1) (.slice none 0 0) (.slice none 0 0) [1] [] 450 40 w1 h1 h3 h2 (IntsAt.nil _ _)
  rw [ex_w2, show errB false = 1 from rfl] at f6
  have f6 := Lib.hid f6
  have fa := Lib.hid at38_any
  have B0 := Lib.hid (Below.refl w.heap.size w)
  obtain ⟨w0, hw0⟩ : ∃ x, x = w := ⟨_, rfl⟩
  subst hw0
  go_enter Tryz.func12, Tryz.ntmps12
  go_wp2_with fail
  refine (fa.out 0 0 _).mono ?_
  rintro e w1 ⟨rfl, b1⟩
  have B1 := Lib.hid (B0.out.trans (b1.mono B0.out.size))
  clear b1
  go_wp2_with fail
  have PA := Lib.hid (show PtsAt (w1.alloc (.cells #[.int .i64 0, .int .i64 0] 31)).heap.size (w1.alloc (.cells #[.int .i64 0, .int .i64 0] 31)) (.slice (some ⟨w1.heap.size, 0, none⟩) 1 1) [⟨0, 0⟩] from pts_lit (l := [⟨0, 0⟩]) (Has.new w1 #[.int .i64 0, .int .i64 0] 31) (by simp))
  have BY1 := Lib.hid (B1.out.trans ((((Below.refl w1.heap.size w1).alloc (Nat.le_refl _) (.cells #[.int .i64 0, .int .i64 0] 31))).mono B1.out.size))
  generalize hXY1 : (w1.alloc (.cells #[.int .i64 0, .int .i64 0] 31)) = Y1 at *
  clear hXY1
  refine (fa.out 3 4 _).mono ?_
  rintro e w2 ⟨rfl, b2⟩
  have B2 := Lib.hid (BY1.out.trans (b2.mono BY1.out.size))
  replace PA := Lib.hid ((PA.out.below b2).mono b2.size)
  clear b2
  go_wp2_with fail
  refine (fa.out 5 12 _).mono ?_
  rintro e w3 ⟨rfl, b3⟩
  have B3 := Lib.hid (B2.out.trans (b3.mono B2.out.size))
  replace PA := Lib.hid ((PA.out.below b3).mono b3.size)
  clear b3
  go_wp2_with fail
  replace PA := Lib.hid ((PA.out.below ((Below.refl w3.heap.size w3).alloc (Nat.le_refl _) (.cells #[.int .i64 3, .int .i64 4, .int .i64 5, .int .i64 12] 31))).mono ((Below.refl w3.heap.size w3).alloc (Nat.le_refl _) (.cells #[.int .i64 3, .int .i64 4, .int .i64 5, .int .i64 12] 31)).size)
  have PB := Lib.hid (show PtsAt (w3.alloc (.cells #[.int .i64 3, .int .i64 4, .int .i64 5, .int .i64 12] 31)).heap.size (w3.alloc (.cells #[.int .i64 3, .int .i64 4, .int .i64 5, .int .i64 12] 31)) (.slice (some ⟨w3.heap.size, 0, none⟩) 2 2) [⟨3, 4⟩, ⟨5, 12⟩] from pts_lit (l := [⟨3, 4⟩, ⟨5, 12⟩]) (Has.new w3 #[.int .i64 3, .int .i64 4, .int .i64 5, .int .i64 12] 31) (by simp))
  have BY2 := Lib.hid (B3.out.trans ((((Below.refl w3.heap.size w3).alloc (Nat.le_refl _) (.cells #[.int .i64 3, .int .i64 4, .int .i64 5, .int .i64 12] 31))).mono B3.out.size))
  generalize hXY2 : (w3.alloc (.cells #[.int .i64 3, .int .i64 4, .int .i64 5, .int .i64 12] 31)) = Y2 at *
  clear hXY2
  refine (f1.out _ _ _ PA.out PB.out).mono ?_
  rintro e w4 ⟨rfl, b4⟩
  have B4 := Lib.hid (BY2.out.trans (b4.mono BY2.out.size))
  clear PA
  clear PB
  clear b4
  go_wp2_with fail
  refine (fa.out 0 0 _).mono ?_
  rintro e w5 ⟨rfl, b5⟩
  have B5 := Lib.hid (B4.out.trans (b5.mono B4.out.size))
  clear b5
  go_wp2_with fail
  have PA := Lib.hid (show PtsAt (w5.alloc (.cells #[.int .i64 0, .int .i64 0] 31)).heap.size (w5.alloc (.cells #[.int .i64 0, .int .i64 0] 31)) (.slice (some ⟨w5.heap.size, 0, none⟩) 1 1) [⟨0, 0⟩] from pts_lit (l := [⟨0, 0⟩]) (Has.new w5 #[.int .i64 0, .int .i64 0] 31) (by simp))
  have BY3 := Lib.hid (B5.out.trans ((((Below.refl w5.heap.size w5).alloc (Nat.le_refl _) (.cells #[.int .i64 0, .int .i64 0] 31))).mono B5.out.size))
  generalize hXY3 : (w5.alloc (.cells #[.int .i64 0, .int .i64 0] 31)) = Y3 at *
  clear hXY3
  refine (f2.out _ _ PA.out).mono ?_
  rintro e w6 ⟨rfl, b6⟩
  have B6 := Lib.hid (BY3.out.trans (b6.mono BY3.out.size))
  clear PA
  clear b6
  go_wp2_with fail
  refine (fa.out 0 500 _).mono ?_
  rintro e w7 ⟨rfl, b7⟩
  have B7 := Lib.hid (B6.out.trans (b7.mono B6.out.size))
  clear b7
  go_wp2_with fail
  have WAA := Lib.hid (show Has (w7.alloc (.cells #[.int .i64 0, .int .i64 0, .int .i64 0, .int .i64 0, .int .i64 0, .int .i64 0, .int .i64 500, .int .i64 0, .int .i64 0, .int .i64 0] 40)) w7.heap.size #[.int .i64 0, .int .i64 0, .int .i64 0, .int .i64 0, .int .i64 0, .int .i64 0, .int .i64 500, .int .i64 0, .int .i64 0, .int .i64 0] 40 from Has.new w7 #[.int .i64 0, .int .i64 0, .int .i64 0, .int .i64 0, .int .i64 0, .int .i64 0, .int .i64 500, .int .i64 0, .int .i64 0, .int .i64 0] 40)
  have BY4 := Lib.hid (B7.out.trans ((((Below.refl w7.heap.size w7).alloc (Nat.le_refl _) (.cells #[.int .i64 0, .int .i64 0, .int .i64 0, .int .i64 0, .int .i64 0, .int .i64 0, .int .i64 500, .int .i64 0, .int .i64 0, .int .i64 0] 40))).mono B7.out.size))
  generalize hXY4 : (w7.alloc (.cells #[.int .i64 0, .int .i64 0, .int .i64 0, .int .i64 0, .int .i64 0, .int .i64 0, .int .i64 500, .int .i64 0, .int .i64 0, .int .i64 0] 40)) = Y4 at *
  clear hXY4
  refine (fa.out 0 0 _).mono ?_
  rintro e w8 ⟨rfl, b8⟩
  have B8 := Lib.hid (BY4.out.trans (b8.mono BY4.out.size))
  replace WAA := Lib.hid (WAA.out.below b8 WAA.out.lt)
  clear b8
  have q1 := (Has.new w8 #[.int .i64 0, .int .i64 0] 31).below ((Below.refl (w8.heap.size + 1) _).alloc (by simp) (.cells #[.slice (some ⟨w7.heap.size, 0, none⟩) 2 2, .slice (some ⟨w8.heap.size, 0, none⟩) 1 1, .int .i64 0, .slice none 0 0, .int .i64 1000, .int .i64 0, .int .i64 0, .int .i64 0, .int .i64 0, .int .i64 0, .int .i64 0] 26)) (by omega)
  have q2 := Has.new (w8.alloc (.cells #[.int .i64 0, .int .i64 0] 31)) #[.slice (some ⟨w7.heap.size, 0, none⟩) 2 2, .slice (some ⟨w8.heap.size, 0, none⟩) 1 1, .int .i64 0, .slice none 0 0, .int .i64 1000, .int .i64 0, .int .i64 0, .int .i64 0, .int .i64 0, .int .i64 0, .int .i64 0] 26
  rw [World.size_alloc] at q2
  go_wp2_with fail
  replace WAA := Lib.hid (WAA.out.below (((Below.refl w8.heap.size w8).alloc (Nat.le_refl _) (.cells #[.int .i64 0, .int .i64 0] 31)).alloc (by simp) (.cells #[.slice (some ⟨w7.heap.size, 0, none⟩) 2 2, .slice (some ⟨w8.heap.size, 0, none⟩) 1 1, .int .i64 0, .slice none 0 0, .int .i64 1000, .int .i64 0, .int .i64 0, .int .i64 0, .int .i64 0, .int .i64 0, .int .i64 0] 26)) WAA.out.lt)
  have HOA := Lib.hid (show Has ((w8.alloc (.cells #[.int .i64 0, .int .i64 0] 31)).alloc (.cells #[.slice (some ⟨w7.heap.size, 0, none⟩) 2 2, .slice (some ⟨w8.heap.size, 0, none⟩) 1 1, .int .i64 0, .slice none 0 0, .int .i64 1000, .int .i64 0, .int .i64 0, .int .i64 0, .int .i64 0, .int .i64 0, .int .i64 0] 26)) w8.heap.size #[.int .i64 0, .int .i64 0] 31 from q1)
  have MSA := Lib.hid (show Has ((w8.alloc (.cells #[.int .i64 0, .int .i64 0] 31)).alloc (.cells #[.slice (some ⟨w7.heap.size, 0, none⟩) 2 2, .slice (some ⟨w8.heap.size, 0, none⟩) 1 1, .int .i64 0, .slice none 0 0, .int .i64 1000, .int .i64 0, .int .i64 0, .int .i64 0, .int .i64 0, .int .i64 0, .int .i64 0] 26)) (w8.heap.size + 1) #[.slice (some ⟨w7.heap.size, 0, none⟩) 2 2, .slice (some ⟨w8.heap.size, 0, none⟩) 1 1, .int .i64 0, .slice none 0 0, .int .i64 1000, .int .i64 0, .int .i64 0, .int .i64 0, .int .i64 0, .int .i64 0, .int .i64 0] 26 from q2)
  have BY5 := Lib.hid (B8.out.trans (((((Below.refl w8.heap.size w8).alloc (Nat.le_refl _) (.cells #[.int .i64 0, .int .i64 0] 31)).alloc (by simp) (.cells #[.slice (some ⟨w7.heap.size, 0, none⟩) 2 2, .slice (some ⟨w8.heap.size, 0, none⟩) 1 1, .int .i64 0, .slice none 0 0, .int .i64 1000, .int .i64 0, .int .i64 0, .int .i64 0, .int .i64 0, .int .i64 0, .int .i64 0] 26))).mono B8.out.size))
  generalize hXY5 : ((w8.alloc (.cells #[.int .i64 0, .int .i64 0] 31)).alloc (.cells #[.slice (some ⟨w7.heap.size, 0, none⟩) 2 2, .slice (some ⟨w8.heap.size, 0, none⟩) 1 1, .int .i64 0, .slice none 0 0, .int .i64 1000, .int .i64 0, .int .i64 0, .int .i64 0, .int .i64 0, .int .i64 0, .int .i64 0] 26)) = Y5 at *
  clear hXY5
  clear q1 q2
  refine (fa.out 100 0 _).mono ?_
  rintro e w9 ⟨rfl, b9⟩
  have B9 := Lib.hid (BY5.out.trans (b9.mono BY5.out.size))
  replace WAA := Lib.hid (WAA.out.below b9 WAA.out.lt)
  replace HOA := Lib.hid (HOA.out.below b9 HOA.out.lt)
  replace MSA := Lib.hid (MSA.out.below b9 MSA.out.lt)
  clear b9
  go_wp2_with fail
  refine (fa.out 100 900 _).mono ?_
  rintro e w10 ⟨rfl, b10⟩
  have B10 := Lib.hid (B9.out.trans (b10.mono B9.out.size))
  replace WAA := Lib.hid (WAA.out.below b10 WAA.out.lt)
  replace HOA := Lib.hid (HOA.out.below b10 HOA.out.lt)
  replace MSA := Lib.hid (MSA.out.below b10 MSA.out.lt)
  clear b10
  go_wp2_with fail
  replace WAA := Lib.hid (WAA.out.below ((Below.refl w10.heap.size w10).alloc (Nat.le_refl _) (.cells #[.int .i64 100, .int .i64 0, .int .i64 0, .int .i64 0, .int .i64 0, .int .i64 100, .int .i64 900, .int .i64 0, .int .i64 0, .int .i64 0] 40)) WAA.out.lt)
  replace HOA := Lib.hid (HOA.out.below ((Below.refl w10.heap.size w10).alloc (Nat.le_refl _) (.cells #[.int .i64 100, .int .i64 0, .int .i64 0, .int .i64 0, .int .i64 0, .int .i64 100, .int .i64 900, .int .i64 0, .int .i64 0, .int .i64 0] 40)) HOA.out.lt)
  replace MSA := Lib.hid (MSA.out.below ((Below.refl w10.heap.size w10).alloc (Nat.le_refl _) (.cells #[.int .i64 100, .int .i64 0, .int .i64 0, .int .i64 0, .int .i64 0, .int .i64 100, .int .i64 900, .int .i64 0, .int .i64 0, .int .i64 0] 40)) MSA.out.lt)
  have WAB := Lib.hid (show Has (w10.alloc (.cells #[.int .i64 100, .int .i64 0, .int .i64 0, .int .i64 0, .int .i64 0, .int .i64 100, .int .i64 900, .int .i64 0, .int .i64 0, .int .i64 0] 40)) w10.heap.size #[.int .i64 100, .int .i64 0, .int .i64 0, .int .i64 0, .int .i64 0, .int .i64 100, .int .i64 900, .int .i64 0, .int .i64 0, .int .i64 0] 40 from Has.new w10 #[.int .i64 100, .int .i64 0, .int .i64 0, .int .i64 0, .int .i64 0, .int .i64 100, .int .i64 900, .int .i64 0, .int .i64 0, .int .i64 0] 40)
  have BY6 := Lib.hid (B10.out.trans ((((Below.refl w10.heap.size w10).alloc (Nat.le_refl _) (.cells #[.int .i64 100, .int .i64 0, .int .i64 0, .int .i64 0, .int .i64 0, .int .i64 100, .int .i64 900, .int .i64 0, .int .i64 0, .int .i64 0] 40))).mono B10.out.size))
  generalize hXY6 : (w10.alloc (.cells #[.int .i64 100, .int .i64 0, .int .i64 0, .int .i64 0, .int .i64 0, .int .i64 100, .int .i64 900, .int .i64 0, .int .i64 0, .int .i64 0] 40)) = Y6 at *
  clear hXY6
  refine (fa.out 100 0 _).mono ?_
  rintro e w11 ⟨rfl, b11⟩
  have B11 := Lib.hid (BY6.out.trans (b11.mono BY6.out.size))
  replace WAA := Lib.hid (WAA.out.below b11 WAA.out.lt)
  replace HOA := Lib.hid (HOA.out.below b11 HOA.out.lt)
  replace MSA := Lib.hid (MSA.out.below b11 MSA.out.lt)
  replace WAB := Lib.hid (WAB.out.below b11 WAB.out.lt)
  clear b11
  have q1 := (Has.new w11 #[.int .i64 100, .int .i64 0] 31).below ((Below.refl (w11.heap.size + 1) _).alloc (by simp) (.cells #[.slice (some ⟨w10.heap.size, 0, none⟩) 2 2, .slice (some ⟨w11.heap.size, 0, none⟩) 1 1, .int .i64 0, .slice none 0 0, .int .i64 1000, .int .i64 0, .int .i64 0, .int .i64 0, .int .i64 0, .int .i64 0, .int .i64 0] 26)) (by omega)
  have q2 := Has.new (w11.alloc (.cells #[.int .i64 100, .int .i64 0] 31)) #[.slice (some ⟨w10.heap.size, 0, none⟩) 2 2, .slice (some ⟨w11.heap.size, 0, none⟩) 1 1, .int .i64 0, .slice none 0 0, .int .i64 1000, .int .i64 0, .int .i64 0, .int .i64 0, .int .i64 0, .int .i64 0, .int .i64 0] 26
  rw [World.size_alloc] at q2
  have c0 := (MSA.out.below (((Below.refl w11.heap.size w11).alloc (Nat.le_refl _) (.cells #[.int .i64 100, .int .i64 0] 31)).alloc (by simp) (.cells #[.slice (some ⟨w10.heap.size, 0, none⟩) 2 2, .slice (some ⟨w11.heap.size, 0, none⟩) 1 1, .int .i64 0, .slice none 0 0, .int .i64 1000, .int .i64 0, .int .i64 0, .int .i64 0, .int .i64 0, .int .i64 0, .int .i64 0] 26)) MSA.out.lt).cell (i := 0) rfl
  have d0 := q2.cell (i := 0) rfl
  have c1 := (MSA.out.below (((Below.refl w11.heap.size w11).alloc (Nat.le_refl _) (.cells #[.int .i64 100, .int .i64 0] 31)).alloc (by simp) (.cells #[.slice (some ⟨w10.heap.size, 0, none⟩) 2 2, .slice (some ⟨w11.heap.size, 0, none⟩) 1 1, .int .i64 0, .slice none 0 0, .int .i64 1000, .int .i64 0, .int .i64 0, .int .i64 0, .int .i64 0, .int .i64 0, .int .i64 0] 26)) MSA.out.lt).cell (i := 1) rfl
  have d1 := q2.cell (i := 1) rfl
  have c2 := (MSA.out.below (((Below.refl w11.heap.size w11).alloc (Nat.le_refl _) (.cells #[.int .i64 100, .int .i64 0] 31)).alloc (by simp) (.cells #[.slice (some ⟨w10.heap.size, 0, none⟩) 2 2, .slice (some ⟨w11.heap.size, 0, none⟩) 1 1, .int .i64 0, .slice none 0 0, .int .i64 1000, .int .i64 0, .int .i64 0, .int .i64 0, .int .i64 0, .int .i64 0, .int .i64 0] 26)) MSA.out.lt).cell (i := 2) rfl
  have d2 := q2.cell (i := 2) rfl
  have c3 := (MSA.out.below (((Below.refl w11.heap.size w11).alloc (Nat.le_refl _) (.cells #[.int .i64 100, .int .i64 0] 31)).alloc (by simp) (.cells #[.slice (some ⟨w10.heap.size, 0, none⟩) 2 2, .slice (some ⟨w11.heap.size, 0, none⟩) 1 1, .int .i64 0, .slice none 0 0, .int .i64 1000, .int .i64 0, .int .i64 0, .int .i64 0, .int .i64 0, .int .i64 0, .int .i64 0] 26)) MSA.out.lt).cell (i := 3) rfl
  have d3 := q2.cell (i := 3) rfl
  have c4 := (MSA.out.below (((Below.refl w11.heap.size w11).alloc (Nat.le_refl _) (.cells #[.int .i64 100, .int .i64 0] 31)).alloc (by simp) (.cells #[.slice (some ⟨w10.heap.size, 0, none⟩) 2 2, .slice (some ⟨w11.heap.size, 0, none⟩) 1 1, .int .i64 0, .slice none 0 0, .int .i64 1000, .int .i64 0, .int .i64 0, .int .i64 0, .int .i64 0, .int .i64 0, .int .i64 0] 26)) MSA.out.lt).cell (i := 4) rfl
  have d4 := q2.cell (i := 4) rfl
  have c5 := (MSA.out.below (((Below.refl w11.heap.size w11).alloc (Nat.le_refl _) (.cells #[.int .i64 100, .int .i64 0] 31)).alloc (by simp) (.cells #[.slice (some ⟨w10.heap.size, 0, none⟩) 2 2, .slice (some ⟨w11.heap.size, 0, none⟩) 1 1, .int .i64 0, .slice none 0 0, .int .i64 1000, .int .i64 0, .int .i64 0, .int .i64 0, .int .i64 0, .int .i64 0, .int .i64 0] 26)) MSA.out.lt).cell (i := 5) rfl
  have d5 := q2.cell (i := 5) rfl
  have c6 := (MSA.out.below (((Below.refl w11.heap.size w11).alloc (Nat.le_refl _) (.cells #[.int .i64 100, .int .i64 0] 31)).alloc (by simp) (.cells #[.slice (some ⟨w10.heap.size, 0, none⟩) 2 2, .slice (some ⟨w11.heap.size, 0, none⟩) 1 1, .int .i64 0, .slice none 0 0, .int .i64 1000, .int .i64 0, .int .i64 0, .int .i64 0, .int .i64 0, .int .i64 0, .int .i64 0] 26)) MSA.out.lt).cell (i := 6) rfl
  have d6 := q2.cell (i := 6) rfl
  have c7 := (MSA.out.below (((Below.refl w11.heap.size w11).alloc (Nat.le_refl _) (.cells #[.int .i64 100, .int .i64 0] 31)).alloc (by simp) (.cells #[.slice (some ⟨w10.heap.size, 0, none⟩) 2 2, .slice (some ⟨w11.heap.size, 0, none⟩) 1 1, .int .i64 0, .slice none 0 0, .int .i64 1000, .int .i64 0, .int .i64 0, .int .i64 0, .int .i64 0, .int .i64 0, .int .i64 0] 26)) MSA.out.lt).cell (i := 7) rfl
  have d7 := q2.cell (i := 7) rfl
  have c8 := (MSA.out.below (((Below.refl w11.heap.size w11).alloc (Nat.le_refl _) (.cells #[.int .i64 100, .int .i64 0] 31)).alloc (by simp) (.cells #[.slice (some ⟨w10.heap.size, 0, none⟩) 2 2, .slice (some ⟨w11.heap.size, 0, none⟩) 1 1, .int .i64 0, .slice none 0 0, .int .i64 1000, .int .i64 0, .int .i64 0, .int .i64 0, .int .i64 0, .int .i64 0, .int .i64 0] 26)) MSA.out.lt).cell (i := 8) rfl
  have d8 := q2.cell (i := 8) rfl
  have c9 := (MSA.out.below (((Below.refl w11.heap.size w11).alloc (Nat.le_refl _) (.cells #[.int .i64 100, .int .i64 0] 31)).alloc (by simp) (.cells #[.slice (some ⟨w10.heap.size, 0, none⟩) 2 2, .slice (some ⟨w11.heap.size, 0, none⟩) 1 1, .int .i64 0, .slice none 0 0, .int .i64 1000, .int .i64 0, .int .i64 0, .int .i64 0, .int .i64 0, .int .i64 0, .int .i64 0] 26)) MSA.out.lt).cell (i := 9) rfl
  have d9 := q2.cell (i := 9) rfl
  have c10 := (MSA.out.below (((Below.refl w11.heap.size w11).alloc (Nat.le_refl _) (.cells #[.int .i64 100, .int .i64 0] 31)).alloc (by simp) (.cells #[.slice (some ⟨w10.heap.size, 0, none⟩) 2 2, .slice (some ⟨w11.heap.size, 0, none⟩) 1 1, .int .i64 0, .slice none 0 0, .int .i64 1000, .int .i64 0, .int .i64 0, .int .i64 0, .int .i64 0, .int .i64 0, .int .i64 0] 26)) MSA.out.lt).cell (i := 10) rfl
  have d10 := q2.cell (i := 10) rfl
  go_wp2_with fail
  replace WAA := Lib.hid (WAA.out.below (((Below.refl w11.heap.size w11).alloc (Nat.le_refl _) (.cells #[.int .i64 100, .int .i64 0] 31)).alloc (by simp) (.cells #[.slice (some ⟨w10.heap.size, 0, none⟩) 2 2, .slice (some ⟨w11.heap.size, 0, none⟩) 1 1, .int .i64 0, .slice none 0 0, .int .i64 1000, .int .i64 0, .int .i64 0, .int .i64 0, .int .i64 0, .int .i64 0, .int .i64 0] 26)) WAA.out.lt)
  replace HOA := Lib.hid (HOA.out.below (((Below.refl w11.heap.size w11).alloc (Nat.le_refl _) (.cells #[.int .i64 100, .int .i64 0] 31)).alloc (by simp) (.cells #[.slice (some ⟨w10.heap.size, 0, none⟩) 2 2, .slice (some ⟨w11.heap.size, 0, none⟩) 1 1, .int .i64 0, .slice none 0 0, .int .i64 1000, .int .i64 0, .int .i64 0, .int .i64 0, .int .i64 0, .int .i64 0, .int .i64 0] 26)) HOA.out.lt)
  replace MSA := Lib.hid (MSA.out.below (((Below.refl w11.heap.size w11).alloc (Nat.le_refl _) (.cells #[.int .i64 100, .int .i64 0] 31)).alloc (by simp) (.cells #[.slice (some ⟨w10.heap.size, 0, none⟩) 2 2, .slice (some ⟨w11.heap.size, 0, none⟩) 1 1, .int .i64 0, .slice none 0 0, .int .i64 1000, .int .i64 0, .int .i64 0, .int .i64 0, .int .i64 0, .int .i64 0, .int .i64 0] 26)) MSA.out.lt)
  replace WAB := Lib.hid (WAB.out.below (((Below.refl w11.heap.size w11).alloc (Nat.le_refl _) (.cells #[.int .i64 100, .int .i64 0] 31)).alloc (by simp) (.cells #[.slice (some ⟨w10.heap.size, 0, none⟩) 2 2, .slice (some ⟨w11.heap.size, 0, none⟩) 1 1, .int .i64 0, .slice none 0 0, .int .i64 1000, .int .i64 0, .int .i64 0, .int .i64 0, .int .i64 0, .int .i64 0, .int .i64 0] 26)) WAB.out.lt)
  have HOB := Lib.hid (show Has ((w11.alloc (.cells #[.int .i64 100, .int .i64 0] 31)).alloc (.cells #[.slice (some ⟨w10.heap.size, 0, none⟩) 2 2, .slice (some ⟨w11.heap.size, 0, none⟩) 1 1, .int .i64 0, .slice none 0 0, .int .i64 1000, .int .i64 0, .int .i64 0, .int .i64 0, .int .i64 0, .int .i64 0, .int .i64 0] 26)) w11.heap.size #[.int .i64 100, .int .i64 0] 31 from q1)
  have MSB := Lib.hid (show Has ((w11.alloc (.cells #[.int .i64 100, .int .i64 0] 31)).alloc (.cells #[.slice (some ⟨w10.heap.size, 0, none⟩) 2 2, .slice (some ⟨w11.heap.size, 0, none⟩) 1 1, .int .i64 0, .slice none 0 0, .int .i64 1000, .int .i64 0, .int .i64 0, .int .i64 0, .int .i64 0, .int .i64 0, .int .i64 0] 26)) (w11.heap.size + 1) #[.slice (some ⟨w10.heap.size, 0, none⟩) 2 2, .slice (some ⟨w11.heap.size, 0, none⟩) 1 1, .int .i64 0, .slice none 0 0, .int .i64 1000, .int .i64 0, .int .i64 0, .int .i64 0, .int .i64 0, .int .i64 0, .int .i64 0] 26 from q2)
  have BY7 := Lib.hid (B11.out.trans (((((Below.refl w11.heap.size w11).alloc (Nat.le_refl _) (.cells #[.int .i64 100, .int .i64 0] 31)).alloc (by simp) (.cells #[.slice (some ⟨w10.heap.size, 0, none⟩) 2 2, .slice (some ⟨w11.heap.size, 0, none⟩) 1 1, .int .i64 0, .slice none 0 0, .int .i64 1000, .int .i64 0, .int .i64 0, .int .i64 0, .int .i64 0, .int .i64 0, .int .i64 0] 26))).mono B11.out.size))
  generalize hXY7 : ((w11.alloc (.cells #[.int .i64 100, .int .i64 0] 31)).alloc (.cells #[.slice (some ⟨w10.heap.size, 0, none⟩) 2 2, .slice (some ⟨w11.heap.size, 0, none⟩) 1 1, .int .i64 0, .slice none 0 0, .int .i64 1000, .int .i64 0, .int .i64 0, .int .i64 0, .int .i64 0, .int .i64 0, .int .i64 0] 26)) = Y7 at *
  clear hXY7
  clear q1 q2
  clear c0 d0 c1 d1 c2 d2 c3 d3 c4 d4 c5 d5 c6 d6 c7 d7 c8 d8 c9 d9 c10 d10
  refine (f3.out _ _ _ _ _ (exT_at WAA.out HOA.out) (exT_at WAB.out HOB.out)).mono ?_
  rintro e w12 ⟨rfl, b12⟩
  have B12 := Lib.hid (BY7.out.trans (b12.mono BY7.out.size))
  replace WAA := Lib.hid (WAA.out.below b12 WAA.out.lt)
  replace HOA := Lib.hid (HOA.out.below b12 HOA.out.lt)
  replace MSA := Lib.hid (MSA.out.below b12 MSA.out.lt)
  replace WAB := Lib.hid (WAB.out.below b12 WAB.out.lt)
  replace HOB := Lib.hid (HOB.out.below b12 HOB.out.lt)
  replace MSB := Lib.hid (MSB.out.below b12 MSB.out.lt)
  clear b12
  have c0 := MSA.out.cell (i := 0) rfl
  have c1 := MSA.out.cell (i := 1) rfl
  have c2 := MSA.out.cell (i := 2) rfl
  have c3 := MSA.out.cell (i := 3) rfl
  have c4 := MSA.out.cell (i := 4) rfl
  have c5 := MSA.out.cell (i := 5) rfl
  have c6 := MSA.out.cell (i := 6) rfl
  have c7 := MSA.out.cell (i := 7) rfl
  have c8 := MSA.out.cell (i := 8) rfl
  have c9 := MSA.out.cell (i := 9) rfl
  have c10 := MSA.out.cell (i := 10) rfl
  have d0 := MSB.out.cell (i := 0) rfl
  have d1 := MSB.out.cell (i := 1) rfl
  have d2 := MSB.out.cell (i := 2) rfl
  have d3 := MSB.out.cell (i := 3) rfl
  have d4 := MSB.out.cell (i := 4) rfl
  have d5 := MSB.out.cell (i := 5) rfl
  have d6 := MSB.out.cell (i := 6) rfl
  have d7 := MSB.out.cell (i := 7) rfl
  have d8 := MSB.out.cell (i := 8) rfl
  have d9 := MSB.out.cell (i := 9) rfl
  have d10 := MSB.out.cell (i := 10) rfl
  go_wp2_with fail
  refine (f4.out _ _ _ _ _ (exT_at WAA.out HOA.out) (exT_at WAB.out HOB.out)).mono ?_
  rintro e w13 ⟨rfl, b13⟩
  have B13 := Lib.hid (B12.out.trans (b13.mono B12.out.size))
  replace WAA := Lib.hid (WAA.out.below b13 WAA.out.lt)
  replace HOA := Lib.hid (HOA.out.below b13 HOA.out.lt)
  replace MSA := Lib.hid (MSA.out.below b13 MSA.out.lt)
  replace WAB := Lib.hid (WAB.out.below b13 WAB.out.lt)
  replace HOB := Lib.hid (HOB.out.below b13 HOB.out.lt)
  replace MSB := Lib.hid (MSB.out.below b13 MSB.out.lt)
  clear b13
  clear c0 c1 c2 c3 c4 c5 c6 c7 c8 c9 c10 d0 d1 d2 d3 d4 d5 d6 d7 d8 d9 d10
  have c0 := MSA.out.cell (i := 0) rfl
  have c1 := MSA.out.cell (i := 1) rfl
  have c2 := MSA.out.cell (i := 2) rfl
  have c3 := MSA.out.cell (i := 3) rfl
  have c4 := MSA.out.cell (i := 4) rfl
  have c5 := MSA.out.cell (i := 5) rfl
  have c6 := MSA.out.cell (i := 6) rfl
  have c7 := MSA.out.cell (i := 7) rfl
  have c8 := MSA.out.cell (i := 8) rfl
  have c9 := MSA.out.cell (i := 9) rfl
  have c10 := MSA.out.cell (i := 10) rfl
  have d0 := MSB.out.cell (i := 0) rfl
  have d1 := MSB.out.cell (i := 1) rfl
  have d2 := MSB.out.cell (i := 2) rfl
  have d3 := MSB.out.cell (i := 3) rfl
  have d4 := MSB.out.cell (i := 4) rfl
  have d5 := MSB.out.cell (i := 5) rfl
  have d6 := MSB.out.cell (i := 6) rfl
  have d7 := MSB.out.cell (i := 7) rfl
  have d8 := MSB.out.cell (i := 8) rfl
  have d9 := MSB.out.cell (i := 9) rfl
  have d10 := MSB.out.cell (i := 10) rfl
  go_wp2_with fail
  refine (f5.out _ _ _ _ _ (exT_at WAA.out HOA.out) (exT_at WAB.out HOB.out)).mono ?_
  rintro e w14 ⟨v14, rfl, p14, b14⟩
  have B14 := Lib.hid (B13.out.trans (b14.mono B13.out.size))
  replace WAA := Lib.hid (WAA.out.below b14 WAA.out.lt)
  replace HOA := Lib.hid (HOA.out.below b14 HOA.out.lt)
  replace MSA := Lib.hid (MSA.out.below b14 MSA.out.lt)
  replace WAB := Lib.hid (WAB.out.below b14 WAB.out.lt)
  replace HOB := Lib.hid (HOB.out.below b14 HOB.out.lt)
  replace MSB := Lib.hid (MSB.out.below b14 MSB.out.lt)
  have L1 := Lib.hid p14
  obtain ⟨-, g14, c14', hv14, -⟩ := p14
  subst hv14
  clear b14
  clear c0 c1 c2 c3 c4 c5 c6 c7 c8 c9 c10 d0 d1 d2 d3 d4 d5 d6 d7 d8 d9 d10
  have c0 := MSA.out.cell (i := 0) rfl
  have c1 := MSA.out.cell (i := 1) rfl
  have c2 := MSA.out.cell (i := 2) rfl
  have c3 := MSA.out.cell (i := 3) rfl
  have c4 := MSA.out.cell (i := 4) rfl
  have c5 := MSA.out.cell (i := 5) rfl
  have c6 := MSA.out.cell (i := 6) rfl
  have c7 := MSA.out.cell (i := 7) rfl
  have c8 := MSA.out.cell (i := 8) rfl
  have c9 := MSA.out.cell (i := 9) rfl
  have c10 := MSA.out.cell (i := 10) rfl
  have d0 := MSB.out.cell (i := 0) rfl
  have d1 := MSB.out.cell (i := 1) rfl
  have d2 := MSB.out.cell (i := 2) rfl
  have d3 := MSB.out.cell (i := 3) rfl
  have d4 := MSB.out.cell (i := 4) rfl
  have d5 := MSB.out.cell (i := 5) rfl
  have d6 := MSB.out.cell (i := 6) rfl
  have d7 := MSB.out.cell (i := 7) rfl
  have d8 := MSB.out.cell (i := 8) rfl
  have d9 := MSB.out.cell (i := 9) rfl
  have d10 := MSB.out.cell (i := 10) rfl
  go_wp2_with fail
  replace WAA := Lib.hid (WAA.out.below ((Below.refl w14.heap.size w14).alloc (Nat.le_refl _) (.cells #[.int .i64 1] 3)) WAA.out.lt)
  replace HOA := Lib.hid (HOA.out.below ((Below.refl w14.heap.size w14).alloc (Nat.le_refl _) (.cells #[.int .i64 1] 3)) HOA.out.lt)
  replace MSA := Lib.hid (MSA.out.below ((Below.refl w14.heap.size w14).alloc (Nat.le_refl _) (.cells #[.int .i64 1] 3)) MSA.out.lt)
  replace WAB := Lib.hid (WAB.out.below ((Below.refl w14.heap.size w14).alloc (Nat.le_refl _) (.cells #[.int .i64 1] 3)) WAB.out.lt)
  replace HOB := Lib.hid (HOB.out.below ((Below.refl w14.heap.size w14).alloc (Nat.le_refl _) (.cells #[.int .i64 1] 3)) HOB.out.lt)
  replace MSB := Lib.hid (MSB.out.below ((Below.refl w14.heap.size w14).alloc (Nat.le_refl _) (.cells #[.int .i64 1] 3)) MSB.out.lt)
  replace L1 := Lib.hid ((L1.out.below ((Below.refl w14.heap.size w14).alloc (Nat.le_refl _) (.cells #[.int .i64 1] 3))).mono ((Below.refl w14.heap.size w14).alloc (Nat.le_refl _) (.cells #[.int .i64 1] 3)).size)
  have LI := Lib.hid (show IntsAt (w14.alloc (.cells #[.int .i64 1] 3)).heap.size (w14.alloc (.cells #[.int .i64 1] 3)) (.slice (some ⟨w14.heap.size, 0, none⟩) 1 1) [1] from rints_new w14 [1] 3 (by simp))
  have BY8 := Lib.hid (B14.out.trans ((((Below.refl w14.heap.size w14).alloc (Nat.le_refl _) (.cells #[.int .i64 1] 3))).mono B14.out.size))
  generalize hXY8 : (w14.alloc (.cells #[.int .i64 1] 3)) = Y8 at *
  clear hXY8
  clear c0 d0 c1 d1 c2 d2 c3 d3 c4 d4 c5 d5 c6 d6 c7 d7 c8 d8 c9 d9 c10 d10
  refine (f6.out _ _ _ _ _ _ (exT_at WAA.out HOA.out) (exT_at WAB.out HOB.out) LI.out).mono ?_
  rintro e w15 ⟨v15, rfl, p15, b15⟩
  have B15 := Lib.hid (BY8.out.trans (b15.mono BY8.out.size))
  replace WAA := Lib.hid (WAA.out.below b15 WAA.out.lt)
  replace HOA := Lib.hid (HOA.out.below b15 HOA.out.lt)
  replace MSA := Lib.hid (MSA.out.below b15 MSA.out.lt)
  replace WAB := Lib.hid (WAB.out.below b15 WAB.out.lt)
  replace HOB := Lib.hid (HOB.out.below b15 HOB.out.lt)
  replace MSB := Lib.hid (MSB.out.below b15 MSB.out.lt)
  replace L1 := Lib.hid ((L1.out.below b15).mono b15.size)
  replace LI := Lib.hid ((LI.out.below b15).mono b15.size)
  obtain ⟨-, g15, c15', hv15, -⟩ := p15
  subst hv15
  clear b15
  go_wp2_with fail
  replace WAA := Lib.hid (WAA.out.below ((Below.refl w15.heap.size w15).alloc (Nat.le_refl _) (.cells #[.int .i64 0, .int .i64 0, .int .i64 450, .int .i64 40, .int .i64 1, .int .i64 1, .int .i64 450, .int .i64 40] 29)) WAA.out.lt)
  replace HOA := Lib.hid (HOA.out.below ((Below.refl w15.heap.size w15).alloc (Nat.le_refl _) (.cells #[.int .i64 0, .int .i64 0, .int .i64 450, .int .i64 40, .int .i64 1, .int .i64 1, .int .i64 450, .int .i64 40] 29)) HOA.out.lt)
  replace MSA := Lib.hid (MSA.out.below ((Below.refl w15.heap.size w15).alloc (Nat.le_refl _) (.cells #[.int .i64 0, .int .i64 0, .int .i64 450, .int .i64 40, .int .i64 1, .int .i64 1, .int .i64 450, .int .i64 40] 29)) MSA.out.lt)
  replace WAB := Lib.hid (WAB.out.below ((Below.refl w15.heap.size w15).alloc (Nat.le_refl _) (.cells #[.int .i64 0, .int .i64 0, .int .i64 450, .int .i64 40, .int .i64 1, .int .i64 1, .int .i64 450, .int .i64 40] 29)) WAB.out.lt)
  replace HOB := Lib.hid (HOB.out.below ((Below.refl w15.heap.size w15).alloc (Nat.le_refl _) (.cells #[.int .i64 0, .int .i64 0, .int .i64 450, .int .i64 40, .int .i64 1, .int .i64 1, .int .i64 450, .int .i64 40] 29)) HOB.out.lt)
  replace MSB := Lib.hid (MSB.out.below ((Below.refl w15.heap.size w15).alloc (Nat.le_refl _) (.cells #[.int .i64 0, .int .i64 0, .int .i64 450, .int .i64 40, .int .i64 1, .int .i64 1, .int .i64 450, .int .i64 40] 29)) MSB.out.lt)
  replace L1 := Lib.hid ((L1.out.below ((Below.refl w15.heap.size w15).alloc (Nat.le_refl _) (.cells #[.int .i64 0, .int .i64 0, .int .i64 450, .int .i64 40, .int .i64 1, .int .i64 1, .int .i64 450, .int .i64 40] 29))).mono ((Below.refl w15.heap.size w15).alloc (Nat.le_refl _) (.cells #[.int .i64 0, .int .i64 0, .int .i64 450, .int .i64 40, .int .i64 1, .int .i64 1, .int .i64 450, .int .i64 40] 29)).size)
  replace LI := Lib.hid ((LI.out.below ((Below.refl w15.heap.size w15).alloc (Nat.le_refl _) (.cells #[.int .i64 0, .int .i64 0, .int .i64 450, .int .i64 40, .int .i64 1, .int .i64 1, .int .i64 450, .int .i64 40] 29))).mono ((Below.refl w15.heap.size w15).alloc (Nat.le_refl _) (.cells #[.int .i64 0, .int .i64 0, .int .i64 450, .int .i64 40, .int .i64 1, .int .i64 1, .int .i64 450, .int .i64 40] 29)).size)
  have L2 := Lib.hid (show RowAt 4 (w15.alloc (.cells #[.int .i64 0, .int .i64 0, .int .i64 450, .int .i64 40, .int .i64 1, .int .i64 1, .int .i64 450, .int .i64 40] 29)).heap.size (w15.alloc (.cells #[.int .i64 0, .int .i64 0, .int .i64 450, .int .i64 40, .int .i64 1, .int .i64 1, .int .i64 450, .int .i64 40] 29)) (.slice (some ⟨w15.heap.size, 0, none⟩) 2 2) (trRows 450 40 [(0, 0), (1, 1)]) from RowAt.lit (rows := trRows 450 40 [(0, 0), (1, 1)]) (Has.new w15 #[.int .i64 0, .int .i64 0, .int .i64 450, .int .i64 40, .int .i64 1, .int .i64 1, .int .i64 450, .int .i64 40] 29) (trRows_size _ _ _) (by simp [trRows]))
  have BYZ := Lib.hid (B15.out.trans ((((Below.refl w15.heap.size w15).alloc (Nat.le_refl _) (.cells #[.int .i64 0, .int .i64 0, .int .i64 450, .int .i64 40, .int .i64 1, .int .i64 1, .int .i64 450, .int .i64 40] 29))).mono B15.out.size))
  generalize hXYZ : (w15.alloc (.cells #[.int .i64 0, .int .i64 0, .int .i64 450, .int .i64 40, .int .i64 1, .int .i64 1, .int .i64 450, .int .i64 40] 29)) = YZ at *
  clear hXYZ
  refine (same38_any 450 40 [(0, 0), (1, 1)] _ _ _ L1.out L2.out).mono ?_
  rintro e w16 ⟨rfl, b16⟩
  have B16 := Lib.hid (BYZ.out.trans (b16.mono BYZ.out.size))
  replace WAA := Lib.hid (WAA.out.below b16 WAA.out.lt)
  replace HOA := Lib.hid (HOA.out.below b16 HOA.out.lt)
  replace MSA := Lib.hid (MSA.out.below b16 MSA.out.lt)
  replace WAB := Lib.hid (WAB.out.below b16 WAB.out.lt)
  replace HOB := Lib.hid (HOB.out.below b16 HOB.out.lt)
  replace MSB := Lib.hid (MSB.out.below b16 MSB.out.lt)
  replace L1 := Lib.hid ((L1.out.below b16).mono b16.size)
  replace LI := Lib.hid ((LI.out.below b16).mono b16.size)
  replace L2 := Lib.hid ((L2.out.below b16).mono b16.size)
  clear b16
  go_wp2
  go_ret
  exact ⟨rfl, B16.out⟩
end Go.Proofs.YtfbdidfaeplllaaGreat

namespace Go.Proofs.YtfbdidfaeplllaaGreat
open Go.RowKit

theorem few03_any (v : Value) (l : List Pt) (w : World) (hp : PtsAt w.heap.size w v l) :
    Calls Tryz.prog 19 #[v] w fun e w' => e = .returned (.bool (decide (l.length ≤ 80))) ∧ Below w.heap.size w w' := by
  obtain ⟨a, cap, rfl⟩ := hp.len
  have B0 := Below.refl w.heap.size w
  clear hp
  go_enter Tryz.func19, Tryz.ntmps19
  go_wp2
  go_ret
  exact ⟨by simp; omega, B0⟩
/-- missions and stops that are not too large -/
noncomputable def few38B (m : Msn) (l : List Int) (o : Msn) (lo : List Int) : Bool := fewB m && (fewB o && (decide ((l.length : Int) ≤ 60) && decide ((lo.length : Int) ≤ 60)))

set_option linter.unusedSimpArgs false in
set_option linter.unusedVariables false in
set_option maxRecDepth 8000 in
set_option maxHeartbeats 1600000 in
theorem few38_any (m o : Msn) (vw vh vr vl vwo vho vro vlo : Value) (l lo : List Int) (w : World) (hm : MsnAt w.heap.size w m vw vh vr) (hl : IntsAt w.heap.size w vl l) (hmo : MsnAt w.heap.size w o vwo vho vro) (hlo : IntsAt w.heap.size w vlo lo) :
    Calls Tryz.prog 13 #[.agg (msnCells m vw vh vr), .agg (msnCells o vwo vho vro), vl, vlo] w fun e w' => e = .returned (.bool (few38B m l o lo)) ∧ Below w.heap.size w w' := by
  have f1 := fun w1 h => few_any m vw vh vr w1 h
  have f2 := fun w1 h => few_any o vwo vho vro w1 h
  have MM := Lib.hid hm
  have OM := Lib.hid hmo
  obtain ⟨⟨-, a1, c1, rfl, -⟩, ⟨-, a2, c2, rfl, -⟩, ⟨-, a3, c3, rfl, -⟩⟩ := hm
  obtain ⟨⟨-, a1o, c1o, rfl, -⟩, ⟨-, a2o, c2o, rfl, -⟩, ⟨-, a3o, c3o, rfl, -⟩⟩ := hmo
  obtain ⟨-, al, cl, rfl, -⟩ := hl
  obtain ⟨-, alo, clo, rfl, -⟩ := hlo
  unfold msnCells few38B at *
  generalize fewB m = b1 at *
  generalize fewB o = b2 at *
  replace f1 := Lib.hid f1
  replace f2 := Lib.hid f2
  have B0 := Lib.hid (Below.refl w.heap.size w)
  go_enter Tryz.func13, Tryz.ntmps13
  have q0 := Has.new w #[.slice a1 m.ways.length (m.ways.length + c1), .slice a2 m.home.length (m.home.length + c2), .int .i64 m.start, .slice a3 m.rocks.length (m.rocks.length + c3), .int .i64 m.speed, .int .i64 m.part, .int .i64 m.flow, .int .i64 m.idle, .int .i64 m.drive, .int .i64 m.battery, .int .i64 m.deadline] 26
  have q0 := q0.below ((Below.refl (w.heap.size + 1) _).alloc (by simp) (.cells #[.slice a1o o.ways.length (o.ways.length + c1o), .slice a2o o.home.length (o.home.length + c2o), .int .i64 o.start, .slice a3o o.rocks.length (o.rocks.length + c3o), .int .i64 o.speed, .int .i64 o.part, .int .i64 o.flow, .int .i64 o.idle, .int .i64 o.drive, .int .i64 o.battery, .int .i64 o.deadline] 26)) (by omega)
  have q1 := Has.new (w.alloc (.cells #[.slice a1 m.ways.length (m.ways.length + c1), .slice a2 m.home.length (m.home.length + c2), .int .i64 m.start, .slice a3 m.rocks.length (m.rocks.length + c3), .int .i64 m.speed, .int .i64 m.part, .int .i64 m.flow, .int .i64 m.idle, .int .i64 m.drive, .int .i64 m.battery, .int .i64 m.deadline] 26)) #[.slice a1o o.ways.length (o.ways.length + c1o), .slice a2o o.home.length (o.home.length + c2o), .int .i64 o.start, .slice a3o o.rocks.length (o.rocks.length + c3o), .int .i64 o.speed, .int .i64 o.part, .int .i64 o.flow, .int .i64 o.idle, .int .i64 o.drive, .int .i64 o.battery, .int .i64 o.deadline] 26
  rw [World.size_alloc] at q1
  go_wp2_with fail
  replace MM := Lib.hid ((MM.out.below (((Below.refl w.heap.size w).alloc (Nat.le_refl _) (.cells #[.slice a1 m.ways.length (m.ways.length + c1), .slice a2 m.home.length (m.home.length + c2), .int .i64 m.start, .slice a3 m.rocks.length (m.rocks.length + c3), .int .i64 m.speed, .int .i64 m.part, .int .i64 m.flow, .int .i64 m.idle, .int .i64 m.drive, .int .i64 m.battery, .int .i64 m.deadline] 26)).alloc (by simp) (.cells #[.slice a1o o.ways.length (o.ways.length + c1o), .slice a2o o.home.length (o.home.length + c2o), .int .i64 o.start, .slice a3o o.rocks.length (o.rocks.length + c3o), .int .i64 o.speed, .int .i64 o.part, .int .i64 o.flow, .int .i64 o.idle, .int .i64 o.drive, .int .i64 o.battery, .int .i64 o.deadline] 26))).mono (((Below.refl w.heap.size w).alloc (Nat.le_refl _) (.cells #[.slice a1 m.ways.length (m.ways.length + c1), .slice a2 m.home.length (m.home.length + c2), .int .i64 m.start, .slice a3 m.rocks.length (m.rocks.length + c3), .int .i64 m.speed, .int .i64 m.part, .int .i64 m.flow, .int .i64 m.idle, .int .i64 m.drive, .int .i64 m.battery, .int .i64 m.deadline] 26)).alloc (by simp) (.cells #[.slice a1o o.ways.length (o.ways.length + c1o), .slice a2o o.home.length (o.home.length + c2o), .int .i64 o.start, .slice a3o o.rocks.length (o.rocks.length + c3o), .int .i64 o.speed, .int .i64 o.part, .int .i64 o.flow, .int .i64 o.idle, .int .i64 o.drive, .int .i64 o.battery, .int .i64 o.deadline] 26)).size)
  replace OM := Lib.hid ((OM.out.below (((Below.refl w.heap.size w).alloc (Nat.le_refl _) (.cells #[.slice a1 m.ways.length (m.ways.length + c1), .slice a2 m.home.length (m.home.length + c2), .int .i64 m.start, .slice a3 m.rocks.length (m.rocks.length + c3), .int .i64 m.speed, .int .i64 m.part, .int .i64 m.flow, .int .i64 m.idle, .int .i64 m.drive, .int .i64 m.battery, .int .i64 m.deadline] 26)).alloc (by simp) (.cells #[.slice a1o o.ways.length (o.ways.length + c1o), .slice a2o o.home.length (o.home.length + c2o), .int .i64 o.start, .slice a3o o.rocks.length (o.rocks.length + c3o), .int .i64 o.speed, .int .i64 o.part, .int .i64 o.flow, .int .i64 o.idle, .int .i64 o.drive, .int .i64 o.battery, .int .i64 o.deadline] 26))).mono (((Below.refl w.heap.size w).alloc (Nat.le_refl _) (.cells #[.slice a1 m.ways.length (m.ways.length + c1), .slice a2 m.home.length (m.home.length + c2), .int .i64 m.start, .slice a3 m.rocks.length (m.rocks.length + c3), .int .i64 m.speed, .int .i64 m.part, .int .i64 m.flow, .int .i64 m.idle, .int .i64 m.drive, .int .i64 m.battery, .int .i64 m.deadline] 26)).alloc (by simp) (.cells #[.slice a1o o.ways.length (o.ways.length + c1o), .slice a2o o.home.length (o.home.length + c2o), .int .i64 o.start, .slice a3o o.rocks.length (o.rocks.length + c3o), .int .i64 o.speed, .int .i64 o.part, .int .i64 o.flow, .int .i64 o.idle, .int .i64 o.drive, .int .i64 o.battery, .int .i64 o.deadline] 26)).size)
  have MB := Lib.hid (show Has ((w.alloc (.cells #[.slice a1 m.ways.length (m.ways.length + c1), .slice a2 m.home.length (m.home.length + c2), .int .i64 m.start, .slice a3 m.rocks.length (m.rocks.length + c3), .int .i64 m.speed, .int .i64 m.part, .int .i64 m.flow, .int .i64 m.idle, .int .i64 m.drive, .int .i64 m.battery, .int .i64 m.deadline] 26)).alloc (.cells #[.slice a1o o.ways.length (o.ways.length + c1o), .slice a2o o.home.length (o.home.length + c2o), .int .i64 o.start, .slice a3o o.rocks.length (o.rocks.length + c3o), .int .i64 o.speed, .int .i64 o.part, .int .i64 o.flow, .int .i64 o.idle, .int .i64 o.drive, .int .i64 o.battery, .int .i64 o.deadline] 26)) (w.heap.size) #[.slice a1 m.ways.length (m.ways.length + c1), .slice a2 m.home.length (m.home.length + c2), .int .i64 m.start, .slice a3 m.rocks.length (m.rocks.length + c3), .int .i64 m.speed, .int .i64 m.part, .int .i64 m.flow, .int .i64 m.idle, .int .i64 m.drive, .int .i64 m.battery, .int .i64 m.deadline] 26 from q0)
  have OB := Lib.hid (show Has ((w.alloc (.cells #[.slice a1 m.ways.length (m.ways.length + c1), .slice a2 m.home.length (m.home.length + c2), .int .i64 m.start, .slice a3 m.rocks.length (m.rocks.length + c3), .int .i64 m.speed, .int .i64 m.part, .int .i64 m.flow, .int .i64 m.idle, .int .i64 m.drive, .int .i64 m.battery, .int .i64 m.deadline] 26)).alloc (.cells #[.slice a1o o.ways.length (o.ways.length + c1o), .slice a2o o.home.length (o.home.length + c2o), .int .i64 o.start, .slice a3o o.rocks.length (o.rocks.length + c3o), .int .i64 o.speed, .int .i64 o.part, .int .i64 o.flow, .int .i64 o.idle, .int .i64 o.drive, .int .i64 o.battery, .int .i64 o.deadline] 26)) (w.heap.size + 1) #[.slice a1o o.ways.length (o.ways.length + c1o), .slice a2o o.home.length (o.home.length + c2o), .int .i64 o.start, .slice a3o o.rocks.length (o.rocks.length + c3o), .int .i64 o.speed, .int .i64 o.part, .int .i64 o.flow, .int .i64 o.idle, .int .i64 o.drive, .int .i64 o.battery, .int .i64 o.deadline] 26 from q1)
  have BX0 := Lib.hid (B0.out.trans (((((Below.refl w.heap.size w).alloc (Nat.le_refl _) (.cells #[.slice a1 m.ways.length (m.ways.length + c1), .slice a2 m.home.length (m.home.length + c2), .int .i64 m.start, .slice a3 m.rocks.length (m.rocks.length + c3), .int .i64 m.speed, .int .i64 m.part, .int .i64 m.flow, .int .i64 m.idle, .int .i64 m.drive, .int .i64 m.battery, .int .i64 m.deadline] 26)).alloc (by simp) (.cells #[.slice a1o o.ways.length (o.ways.length + c1o), .slice a2o o.home.length (o.home.length + c2o), .int .i64 o.start, .slice a3o o.rocks.length (o.rocks.length + c3o), .int .i64 o.speed, .int .i64 o.part, .int .i64 o.flow, .int .i64 o.idle, .int .i64 o.drive, .int .i64 o.battery, .int .i64 o.deadline] 26))).mono B0.out.size))
  generalize hXX0 : ((w.alloc (.cells #[.slice a1 m.ways.length (m.ways.length + c1), .slice a2 m.home.length (m.home.length + c2), .int .i64 m.start, .slice a3 m.rocks.length (m.rocks.length + c3), .int .i64 m.speed, .int .i64 m.part, .int .i64 m.flow, .int .i64 m.idle, .int .i64 m.drive, .int .i64 m.battery, .int .i64 m.deadline] 26)).alloc (.cells #[.slice a1o o.ways.length (o.ways.length + c1o), .slice a2o o.home.length (o.home.length + c2o), .int .i64 o.start, .slice a3o o.rocks.length (o.rocks.length + c3o), .int .i64 o.speed, .int .i64 o.part, .int .i64 o.flow, .int .i64 o.idle, .int .i64 o.drive, .int .i64 o.battery, .int .i64 o.deadline] 26)) = X0 at *
  clear hXX0
  clear q0 q1
  have hz0 := BX0.out.size
  refine (f1.out _ MM.out).mono ?_
  rintro e w1 ⟨rfl, b1⟩
  have B1 := Lib.hid (BX0.out.trans (b1.mono BX0.out.size))
  replace MM := Lib.hid ((MM.out.below b1).mono b1.size)
  replace OM := Lib.hid ((OM.out.below b1).mono b1.size)
  replace MB := Lib.hid (MB.out.below b1 MB.out.lt)
  replace OB := Lib.hid (OB.out.below b1 OB.out.lt)
  clear b1
  obtain ⟨d0, d1, d2, d3, d4, d5, d6, d7, d8, d9, d10⟩ := msn_cells (m := m) MB.out
  obtain ⟨e0, e1, e2, e3, e4, e5, e6, e7, e8, e9, e10⟩ := msn_cells (m := o) OB.out
  cases b1
  · go_wp2
    go_ret
    exact ⟨by simp, B1.out⟩
  go_wp2_with fail
  refine (f2.out _ OM.out).mono ?_
  rintro e w2 ⟨rfl, b2⟩
  have B2 := Lib.hid (B1.out.trans (b2.mono B1.out.size))
  replace MM := Lib.hid ((MM.out.below b2).mono b2.size)
  replace OM := Lib.hid ((OM.out.below b2).mono b2.size)
  replace MB := Lib.hid (MB.out.below b2 MB.out.lt)
  replace OB := Lib.hid (OB.out.below b2 OB.out.lt)
  clear b2
  clear d0 d1 d2 d3 d4 d5 d6 d7 d8 d9 d10 e0 e1 e2 e3 e4 e5 e6 e7 e8 e9 e10
  obtain ⟨d0, d1, d2, d3, d4, d5, d6, d7, d8, d9, d10⟩ := msn_cells (m := m) MB.out
  obtain ⟨e0, e1, e2, e3, e4, e5, e6, e7, e8, e9, e10⟩ := msn_cells (m := o) OB.out
  cases b2
  · go_wp2
    go_ret
    exact ⟨by simp, B2.out⟩
  cases d : decide ((l.length : Int) ≤ 60)
  · go_wp2
    go_ret
    exact ⟨by simp at d ⊢; intros; omega, B2.out⟩
  go_wp2
  go_ret
  exact ⟨by simp at d ⊢; intros; omega, B2.out⟩
end Go.Proofs.YtfbdidfaeplllaaGreat
