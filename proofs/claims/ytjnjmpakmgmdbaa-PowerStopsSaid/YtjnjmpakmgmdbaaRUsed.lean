/- The reference's stops: has, Stops. | The reference's Spent and Used. -/
import Derived.Test.YtjnjmpakmgmdbaaUsed
import Derived.Test.YtjnjmpakmgmdbaaRPow
namespace Go.Proofs.Ytjnjmpakmgmdbaa
open Go.RowKit
attribute [local irreducible] wpQuiet

theorem mem_getD {l : List Int} {s : Int} : s ∈ l ↔ ∃ k, k < l.length ∧ l.getD k 0 = s := by
  constructor
  · intro h
    obtain ⟨k, hk, e⟩ := List.mem_iff_getElem.1 h
    exact ⟨k, hk, by simp [List.getD, List.getElem?_eq_getElem hk, e]⟩
  · rintro ⟨k, hk, e⟩
    simp [List.getD, List.getElem?_eq_getElem hk] at e
    rw [← e]
    exact List.getElem_mem hk

set_option maxRecDepth 4000 in
theorem rhas34_any (vl : Value) (l : List Int) (s : Int) (w : World) (hl : IntsAt w.heap.size w vl l) :
    Calls Try.prog 90 #[vl, .int .i64 s] w fun e w' => e = .returned (.bool (decide (s ∈ l))) ∧ Below w.heap.size w w' := by
  obtain ⟨hll, al, capl, rfl, hlc⟩ := hl
  have hlH := Lib.hid hlc
  clear hlc
  go_enter Try.func90, Try.ntmps90
  go_wp2
  go_loopw [5] (fun i wr => ∃ k : Nat, k ≤ l.length ∧ i = .int .i64 k ∧ (∀ j, j < k → l.getD j 0 ≠ s) ∧ wr = w) (fun i _ => l.length - (intOf i).toNat)
  case atStart => exact ⟨0, by omega, rfl, fun j hj => by omega, rfl⟩
  case round =>
    obtain ⟨k, hk, rfl, hall, rfl⟩ := hrel
    have hall' := Lib.hid hall
    clear hall
    by_cases hlt : k < l.length
    · obtain ⟨bl, ol, rfl, hbl, hcl⟩ : ∃ b1 o1, al = some ⟨b1, o1, none⟩ ∧ b1 < wr.heap.size ∧ ∀ j, j < l.length → wr.cell? ⟨b1, o1 + j, none⟩ = some (.int .i64 (l.getD j 0)) := by
        rcases hlH.out with h | h
        · rw [h] at hlt; simp at hlt
        · exact h
      have f1 := hcl k hlt
      clear hcl
      obtain ⟨q, hq⟩ : ∃ q, l.getD k 0 = q := ⟨_, rfl⟩
      rw [hq] at f1
      have HQ := Lib.hid hq
      clear hq
      by_cases he : q = s
      · have hm : Hid (decide (s ∈ l) = true) := decide_eq_true (mem_getD.2 ⟨k, hlt, HQ.out.trans he⟩)
        subst he
        go_wp2
        go_ret
        exact ⟨by rw [hm.out]; rfl, Below.refl _ _⟩
      · have hd : (q == s) = false := by simpa using he
        have he' := Lib.hid he
        clear he
        go_wp2
        go_roundw
        case rel => exact ⟨k + 1, by omega, by go_num, fun j hj => by
          by_cases e : j = k
          · rw [e, HQ.out]; exact he'.out
          · exact hall'.out j (by omega), trivial⟩
        case measure => simp [intOf]; omega
    · obtain rfl : k = l.length := by omega
      have hm : Hid (decide (s ∈ l) = false) := decide_eq_false fun h => by obtain ⟨j, hj, e⟩ := mem_getD.1 h; exact hall'.out j hj e
      go_wp2
      go_ret
      exact ⟨by rw [hm.out]; rfl, Below.refl _ _⟩

set_option linter.unusedSimpArgs false in
set_option maxRecDepth 8000 in
set_option maxHeartbeats 1600000 in
theorem rstops_any (m : Msn) (vw vh vr vl : Value) (l : List Int) (w : World) (hw : WaysAt w.heap.size w vw m.ways) (hl : IntsAt w.heap.size w vl l) :
    Calls Try.prog 68 #[.agg (msnCells m vw vh vr), vl] w fun e w' => e = .returned (.bool (stopsB m l)) ∧ Below w.heap.size w w' := by
  obtain ⟨hll, al, capl, rfl, hlc⟩ := hl
  obtain ⟨hwl, aw, capw, rfl, hwc⟩ := hw
  have H0 := Has.new w (msnCells m (.slice aw m.ways.length (m.ways.length + capw)) vh vr) 26
  have H0' := Lib.hid H0
  have hlH := Lib.hid hlc
  have hwH := Lib.hid hwc
  clear hlc hwc H0
  unfold msnCells at *
  go_enter Try.func68, Try.ntmps68
  go_wp2
  go_loopw [5] (fun i wr => ∃ k : Nat, k ≤ l.length ∧ i = .int .i64 k ∧ (∀ j, j < k → stopOk m l j) ∧ Has wr w.heap.size (msnCells m (.slice aw m.ways.length (m.ways.length + capw)) vh vr) 26 ∧ Below w.heap.size w wr) (fun i _ => l.length - (intOf i).toNat)
  case atStart => exact ⟨0, by omega, rfl, fun j hj => by omega, H0'.out, (Below.refl _ _).alloc (Nat.le_refl _) _⟩
  case round =>
    obtain ⟨k, hk, rfl, hall, H, hB⟩ := hrel
    have hzr := hB.size
    have hlt1 := H.lt
    have hall' := Lib.hid hall
    have HH := Lib.hid H
    have BB := Lib.hid hB
    have hp := prevS_nonneg hall k (Nat.le_refl _)
    by_cases hlt : k < l.length
    · obtain ⟨bl, ol, rfl, hbl, hcl⟩ : ∃ b1 o1, al = some ⟨b1, o1, none⟩ ∧ b1 < w.heap.size ∧ ∀ j, j < l.length → w.cell? ⟨b1, o1 + j, none⟩ = some (.int .i64 (l.getD j 0)) := by
        rcases hlH.out with h | h
        · rw [h] at hlt; simp at hlt
        · exact h
      have f1 := Low.fact ((hB.cell (p := ⟨bl, ol + k, none⟩) hbl).trans (hcl k hlt))
      have cc := Low.fact (show wr.cell? ⟨w.heap.size, 0, none⟩ = some (.slice aw m.ways.length (m.ways.length + capw)) from H.cell (i := 0) rfl)
      have HC := Lib.hid hcl
      have hok : stopOk m l k ↔ prevS l k < l.getD k 0 ∧ l.getD k 0 < m.ways.length ∧ (wy m.ways (l.getD k 0).toNat).fix ≠ 0 := Iff.rfl
      have hpv : ∀ j, k = j + 1 → prevS l k = l.getD j 0 := fun j e => by subst e; simp [prevS]
      have hp0 : k = 0 → prevS l k = 0 := fun e => by subst e; simp [prevS]
      clear hcl hall H hB
      obtain ⟨s, hs⟩ : ∃ s, l.getD k 0 = s := ⟨_, rfl⟩
      rw [hs] at f1 hok
      have HO := Lib.hid (And.intro hok (And.intro hpv (And.intro hp0 hs)))
      clear hok hpv hp0 hs
      have kl : (k : Int) < l.length := by omega
      have k0 : (0 : Int) ≤ k := by omega
      have dk : decide ((k : Int) < (l.length : Int)) = true := by rw [decide_eq_true_eq]; omega
      by_cases h1 : s < 1
      · have hno : Hid (stopsB m l = false) := stopsB_no hlt (fun h => by have := (HO.out.1.1 h).1; omega)
        have d1 : decide (s < 1) = true := by simpa using h1
        clear h1
        go_wp2
        (refine wp_region_low (by kernel_rfl) (by kernel_rfl) ?_; (iterate 6 (apply quiet_want; (case hw => rfl); (case hval => (intro w1 hw1; have hcx := Low.cells hw1; simp only [Oper.quietAt]; go_simp; first | done | (first | fail) | rfl | exact ⟨rfl, rfl⟩)); simp only [Act.put, List.setIfInBounds_toArray, List.set_cons_zero, List.set_cons_succ])); (iterate 8 (apply quiet_skip; (case hw => rfl); simp only [Act.put, List.setIfInBounds_toArray, List.set_cons_zero, List.set_cons_succ])); (iterate 1 (apply quiet_want; (case hw => rfl); (case hval => (intro w1 hw1; have hcx := Low.cells hw1; simp only [Oper.quietAt]; go_simp; first | done | (first | fail) | rfl | exact ⟨rfl, rfl⟩)); simp only [Act.put, List.setIfInBounds_toArray, List.set_cons_zero, List.set_cons_succ])); refine wpQuiet_nil ?_; intro w2 hw2)
        go_wp2
        go_ret
        exact ⟨by rw [hno.out]; rfl, BB.out.trans (hw2.out.mono BB.out.size)⟩
      · have d1 : decide (s < 1) = false := by simpa using h1
        by_cases h2 : s < m.ways.length
        · have d2 : decide ((m.ways.length : Int) ≤ s) = false := by simp; omega
          obtain ⟨q, rfl⟩ : ∃ q : Nat, s = q := ⟨s.toNat, by omega⟩
          obtain ⟨bw, ow, rfl, hbw, hcw⟩ : ∃ b o, aw = some ⟨b, o, none⟩ ∧ b < w.heap.size ∧ ∀ j, j < m.ways.length → w.cell? ⟨b, o + j * 5, none⟩ = some (.int .i64 (wy m.ways j).x) ∧ w.cell? ⟨b, o + j * 5 + 1, none⟩ = some (.int .i64 (wy m.ways j).y) ∧ w.cell? ⟨b, o + j * 5 + 2, none⟩ = some (.int .i64 (wy m.ways j).fix) ∧ w.cell? ⟨b, o + j * 5 + 3, none⟩ = some (.int .i64 (wy m.ways j).wait) ∧ w.cell? ⟨b, o + j * 5 + 4, none⟩ = some (.int .i64 (wy m.ways j).back) := by
            rcases hwH.out with h | h
            · rw [h] at h2; simp at h2; omega
            · exact h
          have HW2 := Lib.hid (fun (h : q < m.ways.length) => (BB.out.cell (p := ⟨bw, ow + q * 5 + 2, none⟩) hbw).trans (hcw q h).2.2.1)
          have hql : q < m.ways.length := by omega
          have F1 := Lib.hid ((BB.out.cell (p := ⟨bl, ol + k, none⟩) hbl).trans ((HC.out k hlt).trans (by rw [HO.out.2.2.2])))
          have HOk := HO.out.1
          rw [Int.toNat_natCast] at HOk
          have HOK := Lib.hid HOk
          have q0 : (0 : Int) ≤ (q : Int) := by omega
          clear hcw HOk
          obtain ⟨fx, hfx⟩ : ∃ fx, (wy m.ways q).fix = fx := ⟨_, rfl⟩
          have HFX := Lib.hid hfx
          clear hfx
          go_wp2
          (refine wp_region_low (by kernel_rfl) (by kernel_rfl) ?_; (iterate 15 (apply quiet_want; (case hw => rfl); (case hval => (intro w1 hw1; have hcx := Low.cells hw1; simp only [Oper.quietAt]; go_simp; first | done | (first | fail) | rfl | exact ⟨rfl, rfl⟩)); simp only [Act.put, List.setIfInBounds_toArray, List.set_cons_zero, List.set_cons_succ])); refine wpQuiet_nil ?_; intro w2 hw2)
          have BW := Lib.hid hw2.out
          have H2 := HH.out.below hw2.out hlt1
          have HH2 := Lib.hid H2
          have g1 := Low.fact (hw2.cell F1.out)
          have gc := Low.fact (show w2.cell? ⟨w.heap.size, 0, none⟩ = some (.slice (some ⟨bw, ow, none⟩) m.ways.length (m.ways.length + capw)) from H2.cell (i := 0) rfl)
          have gw := Low.fact ((hw2.cell (HW2.out hql)).trans (by rw [HFX.out]))
          have HL2 := Lib.hid hw2
          clear f1 cc H2 hw2 d1 d2
          obtain ⟨wa, rfl⟩ : ∃ wa, wa = w2 := ⟨_, rfl⟩
          have hza := BW.out.size
          by_cases h3 : fx = 0
          · have hno : Hid (stopsB m l = false) := stopsB_no hlt (fun h => (HOK.out.1 h).2.2 (HFX.out.trans h3))
            have d3 : (fx == 0) = true := by simpa using h3
            subst h3
            go_wp2
            (refine wp_region_low (by kernel_rfl) (by kernel_rfl) ?_; (iterate 11 (apply quiet_want; (case hw => rfl); (case hval => (intro w1 hw1; have hcx := Low.cells hw1; simp only [Oper.quietAt]; go_simp; first | done | (first | fail) | rfl | exact ⟨rfl, rfl⟩)); simp only [Act.put, List.setIfInBounds_toArray, List.set_cons_zero, List.set_cons_succ])); (iterate 14 (apply quiet_skip; (case hw => rfl); simp only [Act.put, List.setIfInBounds_toArray, List.set_cons_zero, List.set_cons_succ])); (iterate 1 (apply quiet_want; (case hw => rfl); (case hval => (intro w1 hw1; have hcx := Low.cells hw1; simp only [Oper.quietAt]; go_simp; first | done | (first | fail) | rfl | exact ⟨rfl, rfl⟩)); simp only [Act.put, List.setIfInBounds_toArray, List.set_cons_zero, List.set_cons_succ])); refine wpQuiet_nil ?_; intro w2 hw2)
            go_wp2
            go_ret
            exact ⟨by rw [hno.out]; rfl, BB.out.trans ((BW.out.trans (hw2.out.mono BW.out.size)).mono BB.out.size)⟩
          · have d3 : (fx == 0) = false := by simpa using h3
            have h3' : Hid ((wy m.ways q).fix ≠ 0) := by show _ ≠ _; rw [HFX.out]; exact h3
            clear h3
            cases k with
            | zero =>
              have d4 : decide ((0 : Int) > 0) = false := by decide
              simp only [Int.natCast_zero, Nat.add_zero] at *
              go_wp2
              (refine wp_region_low (by kernel_rfl) (by kernel_rfl) ?_; (iterate 14 (apply quiet_want; (case hw => rfl); (case hval => (intro w1 hw1; have hcx := Low.cells hw1; simp only [Oper.quietAt]; go_simp; first | done | (first | fail) | rfl | exact ⟨rfl, rfl⟩)); simp only [Act.put, List.setIfInBounds_toArray, List.set_cons_zero, List.set_cons_succ])); (iterate 10 (apply quiet_skip; (case hw => rfl); simp only [Act.put, List.setIfInBounds_toArray, List.set_cons_zero, List.set_cons_succ])); (iterate 2 (apply quiet_want; (case hw => rfl); (case hval => (intro w1 hw1; have hcx := Low.cells hw1; simp only [Oper.quietAt]; go_simp; first | done | (first | fail) | rfl | exact ⟨rfl, rfl⟩)); simp only [Act.put, List.setIfInBounds_toArray, List.set_cons_zero, List.set_cons_succ])); refine wpQuiet_nil ?_; intro w2 hw2)
              go_wp2
              go_roundw
              case rel =>
                refine ⟨0 + 1, by omega, by go_num, fun j hj => ?_, HH2.out.below (hw2.out.mono (by omega)) (by omega), BB.out.trans ((BW.out.trans (hw2.out.mono BW.out.size)).mono BB.out.size)⟩
                obtain rfl : j = 0 := by omega
                exact HOK.out.2 ⟨by simp only [prevS, if_true]; omega, h2, h3'.out⟩
              case measure => simp [intOf]; omega
            | succ j =>
              have F2 := Low.fact (HL2.out.cell ((BB.out.cell (p := ⟨bl, ol + j, none⟩) hbl).trans (HC.out j (by omega))))
              have hpj := HO.out.2.1 j rfl
              obtain ⟨pv, hpv⟩ : ∃ pv, l.getD j 0 = pv := ⟨_, rfl⟩
              rw [hpv] at F2 hpj
              have HPJ := Lib.hid hpj
              clear hpv hpj
              have j1 : (j : Int) < l.length := by omega
              have j2 : (j : Int) + 1 < l.length := by omega
              have j3 : (0 : Int) ≤ (j : Int) + 1 := by omega
              have j4 : (0 : Int) ≤ (j : Int) := by omega
              have j5 : IntKind.i64.wrap (j : Int) = j := IntWalk.i64_in _ (by omega)
              have d4 : decide ((j : Int) + 1 > 0) = true := by rw [decide_eq_true_eq]; omega
              by_cases h5 : (q : Int) ≤ pv
              · have hno : Hid (stopsB m l = false) := stopsB_no hlt (fun h => by have := (HOK.out.1 h).1; rw [HPJ.out] at this; omega)
                have d5 : decide ((q : Int) ≤ pv) = true := by simpa using h5
                clear h5
                go_wp2
                (refine wp_region_low (by kernel_rfl) (by kernel_rfl) ?_; (iterate 26 (apply quiet_want; (case hw => rfl); (case hval => (intro w1 hw1; have hcx := Low.cells hw1; simp only [Oper.quietAt]; go_simp; first | done | (first | fail) | rfl | exact ⟨rfl, rfl⟩)); simp only [Act.put, List.setIfInBounds_toArray, List.set_cons_zero, List.set_cons_succ])); refine wpQuiet_nil ?_; intro w2 hw2)
                go_wp2
                go_ret
                exact ⟨by rw [hno.out]; rfl, BB.out.trans ((BW.out.trans (hw2.out.mono BW.out.size)).mono BB.out.size)⟩
              · have d5 : decide ((q : Int) ≤ pv) = false := by simpa using h5
                have h5' : Hid (pv < (q : Int)) := by show _ < _; omega
                clear h5
                go_wp2
                (refine wp_region_low (by kernel_rfl) (by kernel_rfl) ?_; (iterate 26 (apply quiet_want; (case hw => rfl); (case hval => (intro w1 hw1; have hcx := Low.cells hw1; simp only [Oper.quietAt]; go_simp; first | done | (first | fail) | rfl | exact ⟨rfl, rfl⟩)); simp only [Act.put, List.setIfInBounds_toArray, List.set_cons_zero, List.set_cons_succ])); refine wpQuiet_nil ?_; intro w2 hw2)
                go_wp2
                go_roundw
                case rel =>
                  refine ⟨j + 1 + 1, by omega, by go_num, fun i hi => ?_, HH2.out.below (hw2.out.mono (by omega)) (by omega), BB.out.trans ((BW.out.trans (hw2.out.mono BW.out.size)).mono BB.out.size)⟩
                  by_cases e : i = j + 1
                  · rw [e]
                    exact HOK.out.2 ⟨by rw [HPJ.out]; exact h5'.out, h2, h3'.out⟩
                  · exact hall'.out i (by omega)
                case measure => simp [intOf]; omega
        · have hno : Hid (stopsB m l = false) := stopsB_no hlt (fun h => h2 (HO.out.1.1 h).2.1)
          have d2 : decide ((m.ways.length : Int) ≤ s) = true := by simp; omega
          go_wp2
          (refine wp_region_low (by kernel_rfl) (by kernel_rfl) ?_; (iterate 15 (apply quiet_want; (case hw => rfl); (case hval => (intro w1 hw1; have hcx := Low.cells hw1; simp only [Oper.quietAt]; go_simp; first | done | (first | fail) | rfl | exact ⟨rfl, rfl⟩)); simp only [Act.put, List.setIfInBounds_toArray, List.set_cons_zero, List.set_cons_succ])); refine wpQuiet_nil ?_; intro w2 hw2)
          go_wp2
          go_ret
          exact ⟨by rw [hno.out]; rfl, BB.out.trans (hw2.out.mono BB.out.size)⟩
    · obtain rfl : k = l.length := by omega
      have hyes : Hid (stopsB m l = true) := by
        show stopsB m l = true
        simp only [stopsB, decide_eq_true_eq]
        exact hall'.out
      have hd : decide ((l.length : Int) < (l.length : Int)) = false := by simp
      clear hall H hB
      go_wp2
      go_ret
      exact ⟨by rw [hyes.out]; rfl, BB.out⟩
end Go.Proofs.Ytjnjmpakmgmdbaa

namespace Go.Proofs.Ytjnjmpakmgmdbaa
open Go.RowKit
attribute [local irreducible] wpQuiet

theorem ownsRow_one (W : World) (e : TypeId) (x : Value) {base : Nat} (h : base ≤ W.heap.size) : (W.alloc (.cells #[x] e)).ownsRow base e 1 (.slice (some ⟨W.heap.size, 0, none⟩) 1 1) 1 [x] :=
  ⟨rfl, .inr ⟨_, 1, #[x], rfl, h, World.alloc_heap_new W _, by omega, by decide, rfl, rfl⟩⟩
theorem Two.low {base : Nat} {e : TypeId} {W X : World} {v1 v2 u1 u2 : Value} {n1 n2 k1 k2 : Nat} {l1 l2 m1 m2 : List Value} (h : Two base e W X v1 v2 u1 u2 n1 n2 l1 l2) (r1 : W.ownsRow base e 1 v1 k1 m1) (r2 : W.ownsRow base e 1 v2 k2 m2) (hb : base ≤ W.heap.size) : Below base W X :=
  ⟨h.os, h.tape, h.output, h.size, fun b hlt => h.keep b (by omega) (row_off r1 hlt) (row_off r2 hlt)⟩

set_option linter.unusedSimpArgs false in
set_option maxRecDepth 8000 in
set_option maxHeartbeats 2000000 in
theorem rspent_any (m : Msn) (vw vh vr vl : Value) (l : List Int) (w : World) (hm : MsnAt w.heap.size w m vw vh vr) (hl : IntsAt w.heap.size w vl l) (hV : validB m = true) :
    Calls Try.prog 69 #[.agg (msnCells m vw vh vr), vl] w fun e w' => ∃ v1 v2, e = .returned (.tuple #[v1, v2]) ∧ IntsAt w'.heap.size w' v1 (usedT m l) ∧ IntsAt w'.heap.size w' v2 (usedE m l) ∧ Below w.heap.size w w' := by
  have V := (validB_iff m).1 hV
  have n41 := V.n41
  have n2 := V.n2
  obtain ⟨b, o, cap, rfl, hb, hc2⟩ := hm.1.cells (by omega)
  have HL := Lib.hid hl
  have HM := Lib.hid hm
  have HCW := Lib.hid hc2
  have HV := Lib.hid (And.intro hV V)
  have hhas := Lib.hid (fun s w1 h => rhas34_any vl l s w1 h)
  obtain ⟨_, al, capl, rfl, _⟩ := hl
  have H0 := Has.new w (msnCells m (.slice (some ⟨b, o, none⟩) m.ways.length (m.ways.length + cap)) vh vr) 26
  have H0' := Lib.hid H0
  have R1 := Lib.hid ((ownsRow_one (w.alloc (.cells (msnCells m (.slice (some ⟨b, o, none⟩) m.ways.length (m.ways.length + cap)) vh vr) 26)) 3 (.int .i64 0) (base := w.heap.size + 1) (by simp)).alloc (.cells #[.int .i64 0] 3))
  have R2 := Lib.hid (ownsRow_one ((w.alloc (.cells (msnCells m (.slice (some ⟨b, o, none⟩) m.ways.length (m.ways.length + cap)) vh vr) 26)).alloc (.cells #[.int .i64 0] 3)) 3 (.int .i64 0) (base := w.heap.size + 1) (by simp))
  have H1 := Lib.hid ((H0.below ((Below.refl (w.heap.size + 1) _).alloc (by simp) (.cells #[.int .i64 0] 3)) (by omega)).below ((Below.refl (w.heap.size + 1) _).alloc (by simp) (.cells #[.int .i64 0] 3)) (by omega))
  have B1 : Hid (Below w.heap.size w (((w.alloc (.cells (msnCells m (.slice (some ⟨b, o, none⟩) m.ways.length (m.ways.length + cap)) vh vr) 26)).alloc (.cells #[.int .i64 0] 3)).alloc (.cells #[.int .i64 0] 3))) := (((Below.refl _ w).alloc (Nat.le_refl _) _).alloc (by first | omega | (simp; done) | (simp; omega)) _).alloc (by first | omega | (simp; done) | (simp; omega)) _
  obtain ⟨i0, hi, hz0', hz1', hz2'⟩ := info_parts intInfo
  clear hm hc2 hV V H0
  unfold msnCells at *
  go_enter Try.func69, Try.ntmps69
  go_wp2
  go_loopw [6, 7, 8, 9, 10] (fun v1 v2 t e i wr => ∃ k : Nat, k + 1 ≤ m.ways.length ∧ t = .int .i64 (usT m l k) ∧ e = .int .i64 (usE m l k) ∧ i = .int .i64 ((k : Int) + 1) ∧
    wr.ownsRow (w.heap.size + 1) 3 1 v1 (k + 1) ((upto (usT m l) (k + 1)).map (Value.int .i64)) ∧ wr.ownsRow (w.heap.size + 1) 3 1 v2 (k + 1) ((upto (usE m l) (k + 1)).map (Value.int .i64)) ∧ (v1.ownBlock = none ∨ v1.ownBlock ≠ v2.ownBlock) ∧
    Has wr w.heap.size (msnCells m (.slice (some ⟨b, o, none⟩) m.ways.length (m.ways.length + cap)) vh vr) 26 ∧ Below w.heap.size w wr) (fun _ _ _ _ i _ => m.ways.length - (intOf i).toNat)
  case atStart =>
    refine ⟨0, by omega, rfl, rfl, rfl, ?_, ?_, .inr ?_, H1.out, B1.out⟩
    · have := R1.out
      rw [World.size_alloc] at this
      exact this
    · have := R2.out
      rw [World.size_alloc, World.size_alloc] at this
      exact this
    · simp [Value.ownBlock]
  case round =>
    obtain ⟨k, hk, rfl, rfl, rfl, r1, r2, hne, H, hB⟩ := hrel
    have hbase : w.heap.size + 1 ≤ wr.heap.size := H.lt
    obtain ⟨ga, ca, rfl⟩ := ownsRow_succ r1
    obtain ⟨gb, cb, rfl⟩ := ownsRow_succ r2
    obtain ⟨hV, V⟩ := HV.out
    by_cases hlt : k + 1 < m.ways.length
    · have ub := used_bd V l k (by omega)
      have wbd := wait_bd V l (k := k) (by omega)
      have tb := tLeg_bd V.leg V.ways (i := k) (j := k + 1) (by omega) hlt
      have eb := eLeg_bd V (i := k) (j := k + 1) (by omega) hlt
      have BWf := Lib.hid (fun X u1 u2 n1 n2 l1 l2 (h : Two (w.heap.size + 1) 3 wr X _ _ u1 u2 n1 n2 l1 l2) => hB.trans ((h.low r1 r2 hbase).mono (by omega)))
      have HAf := Lib.hid (fun X u1 u2 n1 n2 l1 l2 (h : Two (w.heap.size + 1) 3 wr X _ _ u1 u2 n1 n2 l1 l2) => H.below (h.low r1 r2 hbase) (by omega))
      have hT := Lib.hid (Two.refl r1 r2 hne)
      have hbt : ∀ w1, MsnAt w1.heap.size w1 m _ vh vr → Calls Try.prog 65 #[.agg (msnCells m (.slice (some ⟨b, o, none⟩) m.ways.length (m.ways.length + cap)) vh vr), .int .i64 (k : Int), .int .i64 ((k : Int) + 1)] w1 fun e w' => e = .returned (.tuple #[.int .i64 (tLeg m k (k + 1)), .int .i64 (eLeg m k (k + 1))]) ∧ Below w1.heap.size w1 w' := fun w1 h => rbetween_any m _ vh vr k (k + 1) w1 h hV (by omega) hlt
      have hh := hhas.out (k : Int) wr ((HL.out.below hB).mono hB.size)
      obtain ⟨c0, c1, c2, c3, c4, c5, c6, c7, c8, c9, c10⟩ := msn_cells (m := m) (vw := .slice (some ⟨b, o, none⟩) m.ways.length (m.ways.length + cap)) (vh := vh) (vr := vr) H
      have hsu : usT m l (k + 1) = usT m l k + waitT m l k + tLeg m k (k + 1) ∧ usE m l (k + 1) = usE m l k + m.idle * waitT m l k + eLeg m k (k + 1) := ⟨rfl, rfl⟩
      have hcw := (HCW.out k (by omega)).2.2.2.1
      have u3 := (hB.cell (p := ⟨b, o + k * 5 + 3, none⟩) hb).trans hcw
      have zB := hB.size
      unfold msnCells at hbt
      have hbt := Lib.hid hbt
      have kw : IntKind.i64.wrap (k : Int) = k := IntWalk.i64_in _ (by omega)
      have k0 : (0 : Int) ≤ (k : Int) := by omega
      have k1 : (k : Int) < m.ways.length := by omega
      have d1 : decide ((k : Int) + 1 < (m.ways.length : Int)) = true := by rw [decide_eq_true_eq]; omega
      have UW := Lib.hid hB
      generalize hTe : tLeg m k (k + 1) = tl at *
      generalize hEe : eLeg m k (k + 1) = el at *
      by_cases hin : (k : Int) ∈ l
      · have dl : decide ((k : Int) ∈ l) = true := by simpa using hin
        rw [dl] at hh
        simp only [waitT, hin, if_true] at hsu wbd
        have hh := Lib.hid hh
        have hs := Lib.hid hsu
        have U3 := Lib.hid u3
        generalize hqe : (wy m.ways k).wait = q at *
        generalize usT m l k = t0 at *
        generalize usE m l k = e0 at *
        have y1 : IntKind.i64.wrap (t0 + q) = t0 + q := IntWalk.i64_in _ (by omega)
        have y2 : IntKind.i64.wrap (m.idle * q) = m.idle * q := IntWalk.i64_in _ (by omega)
        have y3 : IntKind.i64.wrap (e0 + m.idle * q) = e0 + m.idle * q := IntWalk.i64_in _ (by omega)
        have y4 : IntKind.i64.wrap (t0 + q + tl) = t0 + q + tl := IntWalk.i64_in _ (by omega)
        have y5 : IntKind.i64.wrap (e0 + m.idle * q + el) = e0 + m.idle * q + el := IntWalk.i64_in _ (by omega)
        clear hV V r1 r2 hne H hB hsu hcw u3 ub wbd tb eb hin dl
        go_wp2_with fail
        refine hh.out.mono ?_
        rintro e1 wb ⟨rfl, hb2⟩
        replace hT := Lib.hid (hT.out.grow ⟨hb2.os, hb2.tape, hb2.output, hb2.size, fun k hk _ => hb2.block k hk⟩)
        have u3 := (hb2.cell (p := ⟨b, o + k * 5 + 3, none⟩) (show b < wr.heap.size by omega)).trans U3.out
        obtain ⟨c0, c1, c2, c3, c4, c5, c6, c7, c8, c9, c10⟩ := msn_cells (m := m) (vw := .slice (some ⟨b, o, none⟩) m.ways.length (m.ways.length + cap)) (vh := vh) (vr := vr) (HAf.out _ _ _ _ _ _ _ hT.out)
        have l0 := Low.fact c0
        have l7 := Low.fact c7
        have l3 := Low.fact u3
        clear hb2
        go_wp2
        (refine wp_region_low (by kernel_rfl) (by kernel_rfl) ?_; (iterate 13 (apply quiet_want; (case hw => rfl); (case hval => (intro w1 hw1; have hcx := Low.cells hw1; simp only [Oper.quietAt]; go_simp; first | done | (first | fail) | rfl | exact ⟨rfl, rfl⟩)); simp only [Act.put, List.setIfInBounds_toArray, List.set_cons_zero, List.set_cons_succ])); refine wpQuiet_nil ?_; intro w2 hw2)
        replace hT := Lib.hid (hT.out.grow ⟨hw2.out.os, hw2.out.tape, hw2.out.output, hw2.out.size, fun k hk _ => hw2.out.block k hk⟩)
        clear hw2 l0 l7 l3 u3 c0 c1 c2 c3 c4 c5 c6 c7 c8 c9 c10
        obtain ⟨c0, c1, c2, c3, c4, c5, c6, c7, c8, c9, c10⟩ := msn_cells (m := m) (vw := .slice (some ⟨b, o, none⟩) m.ways.length (m.ways.length + cap)) (vh := vh) (vr := vr) (HAf.out _ _ _ _ _ _ _ hT.out)
        go_wp2_with fail
        refine (hbt.out _ ((HM.out.below (BWf.out _ _ _ _ _ _ _ hT.out)).mono (BWf.out _ _ _ _ _ _ _ hT.out).size)).mono ?_
        rintro e3 w3 ⟨rfl, hb3⟩
        replace hT := Lib.hid (hT.out.grow ⟨hb3.os, hb3.tape, hb3.output, hb3.size, fun k hk _ => hb3.block k hk⟩)
        clear hb3
        go_wp2_with (first | (at_builtin; refine wpList_append_own_at _ rfl _ _ 32 rfl (w.heap.size + 1) 3 i0 (.int .i64 0) 1 8 Try.underlying32 hi hz0' hz1' hz2' rfl (by decide) _ _ _ rfl (hT.out.alloc (.cells #[.int .i64 (t0 + q + tl)] 3)).r1 ⟨w3.heap.size, 0, none⟩ 1 1 [.int .i64 (t0 + q + tl)] rfl rfl (cell_one_new _ _ _) (by simp [Value.oneCell']) (by unfold maxLen; omega) (by omega) (Nat.le_trans hbase ((hT.out.alloc (.cells #[.int .i64 (t0 + q + tl)] 3)).size)) ?_; intro u1 x1 hr1 hg1 _ ho1; replace hT := Lib.hid ((hT.out.alloc (.cells #[.int .i64 (t0 + q + tl)] 3)).app1 hg1 hr1 ho1); obtain ⟨g1, cp1, rfl⟩ := ownsRow_succ hr1; clear hg1 hr1 ho1) | (at_builtin; refine wpList_append_own_at _ rfl _ _ 32 rfl (w.heap.size + 1) 3 i0 (.int .i64 0) 1 8 Try.underlying32 hi hz0' hz1' hz2' rfl (by decide) _ _ _ rfl (hT.out.alloc (.cells #[.int .i64 (e0 + m.idle * q + el)] 3)).r2 ⟨x1.heap.size, 0, none⟩ 1 1 [.int .i64 (e0 + m.idle * q + el)] rfl rfl (cell_one_new _ _ _) (by simp [Value.oneCell']) (by unfold maxLen; omega) (by omega) (Nat.le_trans hbase ((hT.out.alloc (.cells #[.int .i64 (e0 + m.idle * q + el)] 3)).size)) ?_; intro u2 x2 hr2 hg2 _ ho2; replace hT := Lib.hid ((hT.out.alloc (.cells #[.int .i64 (e0 + m.idle * q + el)] 3)).app2 hg2 hr2 ho2); obtain ⟨g2, cp2, rfl⟩ := ownsRow_succ hr2; clear hg2 hr2 ho2))
        go_roundw
        case rel =>
          refine ⟨k + 1, by omega, by rw [hs.out.1], by rw [hs.out.2], by go_num, ?_, ?_, hT.out.ne, HAf.out _ _ _ _ _ _ _ hT.out, BWf.out _ _ _ _ _ _ _ hT.out⟩
          · rw [upto_succ, List.map_append, hs.out.1]
            exact hT.out.r1
          · rw [upto_succ, List.map_append, hs.out.2]
            exact hT.out.r2
        case measure => simp [intOf]; omega
      · have dl : decide ((k : Int) ∈ l) = false := by simpa using hin
        rw [dl] at hh
        simp only [waitT, hin, if_false, Int.mul_zero, Int.add_zero] at hsu
        have hh := Lib.hid hh
        have hs := Lib.hid hsu
        generalize usT m l k = t0 at *
        generalize usE m l k = e0 at *
        have y4 : IntKind.i64.wrap (t0 + tl) = t0 + tl := IntWalk.i64_in _ (by omega)
        have y5 : IntKind.i64.wrap (e0 + el) = e0 + el := IntWalk.i64_in _ (by omega)
        clear hV V r1 r2 hne H hB hsu hcw u3 ub wbd tb eb hin dl
        go_wp2_with fail
        refine hh.out.mono ?_
        rintro e1 wb ⟨rfl, hb2⟩
        replace hT := Lib.hid (hT.out.grow ⟨hb2.os, hb2.tape, hb2.output, hb2.size, fun k hk _ => hb2.block k hk⟩)
        clear hb2 c0 c1 c2 c3 c4 c5 c6 c7 c8 c9 c10
        obtain ⟨c0, c1, c2, c3, c4, c5, c6, c7, c8, c9, c10⟩ := msn_cells (m := m) (vw := .slice (some ⟨b, o, none⟩) m.ways.length (m.ways.length + cap)) (vh := vh) (vr := vr) (HAf.out _ _ _ _ _ _ _ hT.out)
        go_wp2_with fail
        refine (hbt.out _ ((HM.out.below (BWf.out _ _ _ _ _ _ _ hT.out)).mono (BWf.out _ _ _ _ _ _ _ hT.out).size)).mono ?_
        rintro e3 w3 ⟨rfl, hb3⟩
        replace hT := Lib.hid (hT.out.grow ⟨hb3.os, hb3.tape, hb3.output, hb3.size, fun k hk _ => hb3.block k hk⟩)
        clear hb3
        go_wp2_with (first | (at_builtin; refine wpList_append_own_at _ rfl _ _ 32 rfl (w.heap.size + 1) 3 i0 (.int .i64 0) 1 8 Try.underlying32 hi hz0' hz1' hz2' rfl (by decide) _ _ _ rfl (hT.out.alloc (.cells #[.int .i64 (t0 + tl)] 3)).r1 ⟨w3.heap.size, 0, none⟩ 1 1 [.int .i64 (t0 + tl)] rfl rfl (cell_one_new _ _ _) (by simp [Value.oneCell']) (by unfold maxLen; omega) (by omega) (Nat.le_trans hbase ((hT.out.alloc (.cells #[.int .i64 (t0 + tl)] 3)).size)) ?_; intro u1 x1 hr1 hg1 _ ho1; replace hT := Lib.hid ((hT.out.alloc (.cells #[.int .i64 (t0 + tl)] 3)).app1 hg1 hr1 ho1); obtain ⟨g1, cp1, rfl⟩ := ownsRow_succ hr1; clear hg1 hr1 ho1) | (at_builtin; refine wpList_append_own_at _ rfl _ _ 32 rfl (w.heap.size + 1) 3 i0 (.int .i64 0) 1 8 Try.underlying32 hi hz0' hz1' hz2' rfl (by decide) _ _ _ rfl (hT.out.alloc (.cells #[.int .i64 (e0 + el)] 3)).r2 ⟨x1.heap.size, 0, none⟩ 1 1 [.int .i64 (e0 + el)] rfl rfl (cell_one_new _ _ _) (by simp [Value.oneCell']) (by unfold maxLen; omega) (by omega) (Nat.le_trans hbase ((hT.out.alloc (.cells #[.int .i64 (e0 + el)] 3)).size)) ?_; intro u2 x2 hr2 hg2 _ ho2; replace hT := Lib.hid ((hT.out.alloc (.cells #[.int .i64 (e0 + el)] 3)).app2 hg2 hr2 ho2); obtain ⟨g2, cp2, rfl⟩ := ownsRow_succ hr2; clear hg2 hr2 ho2))
        go_roundw
        case rel =>
          refine ⟨k + 1, by omega, by rw [hs.out.1], by rw [hs.out.2], by go_num, ?_, ?_, hT.out.ne, HAf.out _ _ _ _ _ _ _ hT.out, BWf.out _ _ _ _ _ _ _ hT.out⟩
          · rw [upto_succ, List.map_append, hs.out.1]
            exact hT.out.r1
          · rw [upto_succ, List.map_append, hs.out.2]
            exact hT.out.r2
        case measure => simp [intOf]; omega
    · obtain hke : k + 1 = m.ways.length := by omega
      have d1 : decide ((k : Int) + 1 < (m.ways.length : Int)) = false := by rw [decide_eq_false_iff_not]; omega
      have g1 : (usedT m l).length ≤ 70368744177663 := by simp [usedT, upto]; omega
      have g2 : (usedE m l).length ≤ 70368744177663 := by simp [usedE, upto]; omega
      have I1 : IntsAt wr.heap.size wr _ (usedT m l) := IntsAt.own (by unfold usedT; rw [← hke]; exact r1) g1
      have I2 : IntsAt wr.heap.size wr _ (usedE m l) := IntsAt.own (by unfold usedE; rw [← hke]; exact r2) g2
      have HI := Lib.hid (And.intro I1 (And.intro I2 hB))
      obtain ⟨c0, c1, c2, c3, c4, c5, c6, c7, c8, c9, c10⟩ := msn_cells (m := m) (vw := .slice (some ⟨b, o, none⟩) m.ways.length (m.ways.length + cap)) (vh := vh) (vr := vr) H
      clear I1 I2 hB H r1 r2 hne hV V g1 g2
      go_wp2
      go_ret2
      exact ⟨_, _, rfl, HI.out.1, HI.out.2.1, HI.out.2.2⟩
set_option maxRecDepth 4000 in
set_option maxHeartbeats 800000 in
theorem rused_all (m : Msn) (vw vh vr vl : Value) (l : List Int) (w : World) (hm : MsnAt w.heap.size w m vw vh vr) (hl : IntsAt w.heap.size w vl l) :
    Calls Try.prog 28 #[.agg (msnCells m vw vh vr), vl] w (UsedQ (usedTR m l) (usedER m l) (usedC m l) w) := by
  have hv := rValid31_any m vw vh vr (w.alloc (.cells (msnCells m vw vh vr) 26)) ((hm.below ((Below.refl _ _).alloc (Nat.le_refl _) _)).mono (by simp))
  have hst := fun w1 h1 h2 => rstops_any m vw vh vr vl l w1 h1 h2
  have hsp := fun w1 h1 h2 h3 => rspent_any m vw vh vr vl l w1 h1 h2 h3
  have H0 := Has.new w (msnCells m vw vh vr) 26
  have H0' := Lib.hid H0
  have HM := Lib.hid hm
  have HL := Lib.hid hl
  clear hm hl H0
  cases h : validB m
  · rw [h] at hv
    have hU : usedOk m l = false := by simp [usedOk, h]
    simp only [usedTR, usedER, usedC, hU, Bool.false_eq_true, if_false]
    have hv := Lib.hid hv
    clear h hU hst hsp
    unfold msnCells at *
    go_enter Try.func28, Try.ntmps28
    go_wp2_with fail; refine (hv.out).mono ?_; rintro e w1 ⟨rfl, hb1⟩; have B1 : Below w.heap.size w w1 := ((Below.refl _ w).alloc (Nat.le_refl _) _).trans (hb1.mono (by simp)); have H1 := H0'.out.below (hb1.mono (by simp) : Below (w.heap.size + 1) _ w1) (by omega); have z1 := H1.lt; have H1' := Lib.hid H1; obtain ⟨c0, c1, c2, c3, c4, c5, c6, c7, c8, c9, c10⟩ := msn_cells (m := m) (vw := vw) (vh := vh) (vr := vr) H1; clear hb1 H1
    go_wp2
    go_ret3
    exact ⟨_, _, rfl, IntsAt.nil _ _, IntsAt.nil _ _, B1⟩
  · rw [h] at hv
    have hv := Lib.hid hv
    cases hs : stopsB m l
    · rw [hs] at hst
      have hU : usedOk m l = false := by simp [usedOk, h, hs]
      simp only [usedTR, usedER, usedC, hU, Bool.false_eq_true, if_false]
      have hst := Lib.hid hst
      clear h hs hU hsp
      unfold msnCells at *
      go_enter Try.func28, Try.ntmps28
      go_wp2_with fail; refine (hv.out).mono ?_; rintro e w1 ⟨rfl, hb1⟩; have B1 : Below w.heap.size w w1 := ((Below.refl _ w).alloc (Nat.le_refl _) _).trans (hb1.mono (by simp)); have H1 := H0'.out.below (hb1.mono (by simp) : Below (w.heap.size + 1) _ w1) (by omega); have z1 := H1.lt; have H1' := Lib.hid H1; obtain ⟨c0, c1, c2, c3, c4, c5, c6, c7, c8, c9, c10⟩ := msn_cells (m := m) (vw := vw) (vh := vh) (vr := vr) H1; clear hb1 H1
      go_wp2_with fail; refine (hst.out _ ((HM.out.1.below B1).mono B1.size) ((HL.out.below B1).mono B1.size)).mono ?_; rintro e w2 ⟨rfl, hb2⟩; have B2 := B1.trans (hb2.mono B1.size); have H2 := H1'.out.below hb2 z1; have z2 := H2.lt; have H2' := Lib.hid H2; obtain ⟨c0, c1, c2, c3, c4, c5, c6, c7, c8, c9, c10⟩ := msn_cells (m := m) (vw := vw) (vh := vh) (vr := vr) H2; clear hb2 H2
      go_wp2
      go_ret3
      exact ⟨_, _, rfl, IntsAt.nil _ _, IntsAt.nil _ _, B2⟩
    · rw [hs] at hst
      have hU : usedOk m l = true := by simp [usedOk, h, hs]
      simp only [usedTR, usedER, usedC, hU, if_true]
      have hst := Lib.hid hst
      have hsp := Lib.hid hsp
      have hV := Lib.hid h
      clear h hs hU
      unfold msnCells at *
      go_enter Try.func28, Try.ntmps28
      go_wp2_with fail; refine (hv.out).mono ?_; rintro e w1 ⟨rfl, hb1⟩; have B1 : Below w.heap.size w w1 := ((Below.refl _ w).alloc (Nat.le_refl _) _).trans (hb1.mono (by simp)); have H1 := H0'.out.below (hb1.mono (by simp) : Below (w.heap.size + 1) _ w1) (by omega); have z1 := H1.lt; have H1' := Lib.hid H1; obtain ⟨c0, c1, c2, c3, c4, c5, c6, c7, c8, c9, c10⟩ := msn_cells (m := m) (vw := vw) (vh := vh) (vr := vr) H1; clear hb1 H1
      go_wp2_with fail; refine (hst.out _ ((HM.out.1.below B1).mono B1.size) ((HL.out.below B1).mono B1.size)).mono ?_; rintro e w2 ⟨rfl, hb2⟩; have B2 := B1.trans (hb2.mono B1.size); have H2 := H1'.out.below hb2 z1; have z2 := H2.lt; have H2' := Lib.hid H2; obtain ⟨c0, c1, c2, c3, c4, c5, c6, c7, c8, c9, c10⟩ := msn_cells (m := m) (vw := vw) (vh := vh) (vr := vr) H2; clear hb2 H2
      go_wp2_with fail; refine (hsp.out _ ((HM.out.below B2).mono B2.size) ((HL.out.below B2).mono B2.size) hV.out).mono ?_; rintro e w3 ⟨v1, v2, rfl, I1, I2, hb3⟩; have B3 := B2.trans (hb3.mono B2.size); have H3 := H2'.out.below hb3 z2; have z3 := H3.lt; have H3' := Lib.hid H3; obtain ⟨c0, c1, c2, c3, c4, c5, c6, c7, c8, c9, c10⟩ := msn_cells (m := m) (vw := vw) (vh := vh) (vr := vr) H3; clear hb3 H3
      have HI := Lib.hid (And.intro I1 I2)
      clear I1 I2
      go_wp2
      go_ret3
      exact ⟨_, _, rfl, HI.out.1, HI.out.2, B3⟩
end Go.Proofs.Ytjnjmpakmgmdbaa
