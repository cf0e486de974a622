/- For all missions and stops (up to 8 ways, 12 rocks and 20 stops): what is used up at a way is what is used up at the one before, and what the leg and a stop there take; it never falls. No condition. -/
import Derived.Test.YtjnjmpakmgmdbaaHead34
import Derived.Test.YtjnjmpakmgmdbaaOpen
namespace Go.Proofs.Ytjnjmpakmgmdbaa.powerUsed
open Go.ChangeShapes Go.WideShapes Go.ChangeAt Go.RowKit
set_option linter.unusedVariables false
theorem own : ownKnob Try.prog.godebug = none := by kernel_rfl
theorem laidOut : laidOutB Try.prog = true := by kernel_rfl
attribute [local irreducible] wpQuiet

theorem stops_at {m : Msn} {l : List Int} (h : stopsB m l = true) {k : Nat} (hk : k < l.length) : stopOk m l k := by
  simp only [stopsB, decide_eq_true_eq] at h; exact h k hk
theorem stops_inc {m : Msn} {l : List Int} (h : stopsB m l = true) : ∀ k j, j < k → k < l.length → l.getD j 0 < l.getD k 0
  | 0, _, hj, _ => by omega
  | k + 1, j, hj, hk => by
    have a := (stops_at h hk).1
    simp only [prevS, Nat.add_one_ne_zero, if_false, Nat.add_sub_cancel] at a
    by_cases e : j = k
    · rw [e]; exact a
    · have := stops_inc h k j (by omega) (by omega); omega
theorem take_not {m : Msn} {l : List Int} (h : stopsB m l = true) {k : Nat} (hk : k < l.length) : l.getD k 0 ∉ l.take k := by
  intro hh
  obtain ⟨j, hj, e⟩ := List.getElem_of_mem hh
  simp only [List.length_take, List.getElem_take] at hj e
  have := stops_inc h k j (by omega) hk
  have e2 : l.getD j 0 = l[j] := by simp [List.getD, List.getElem?_eq_getElem (show j < l.length by omega)]
  omega
theorem take_more {l : List Int} {k : Nat} (hk : k < l.length) : l.take (k + 1) = l.take k ++ [l.getD k 0] := by
  rw [List.take_succ_eq_append_getElem hk]
  simp [List.getD, List.getElem?_eq_getElem hk]

/-- what the leg from i takes, and stops at i, of the first k -/
def accT (m : Msn) (l : List Int) (i k : Nat) : Int := tLeg m i (i + 1) + if (i : Int) ∈ l.take k then (wy m.ways i).wait else 0
def accE (m : Msn) (l : List Int) (i k : Nat) : Int := eLeg m i (i + 1) + if (i : Int) ∈ l.take k then m.idle * (wy m.ways i).wait else 0
theorem acc_zero (m : Msn) (l : List Int) (i : Nat) : accT m l i 0 = tLeg m i (i + 1) ∧ accE m l i 0 = eLeg m i (i + 1) := by simp [accT, accE]
theorem acc_hit {m : Msn} {l : List Int} (h : stopsB m l = true) {i k : Nat} (hk : k < l.length) (e : l.getD k 0 = i) :
    accT m l i (k + 1) = accT m l i k + (wy m.ways i).wait ∧ accE m l i (k + 1) = accE m l i k + m.idle * (wy m.ways i).wait := by
  have a := take_not h hk
  rw [e] at a
  have b := take_more hk
  rw [e] at b
  unfold accT accE
  rw [if_neg a, if_neg a, b, if_pos (by simp), if_pos (by simp)]
  omega
theorem acc_miss {m : Msn} {l : List Int} {i k : Nat} (hk : k < l.length) (e : l.getD k 0 ≠ i) :
    accT m l i (k + 1) = accT m l i k ∧ accE m l i (k + 1) = accE m l i k := by
  have b := take_more hk
  have c : ((i : Int) ∈ l.take (k + 1)) ↔ (i : Int) ∈ l.take k := by
    rw [b, List.mem_append, List.mem_singleton]
    exact ⟨fun h => h.elim id (fun h => absurd h.symm e), .inl⟩
  unfold accT accE
  simp only [c, and_self]
theorem acc_all (m : Msn) (l : List Int) (i : Nat) : usT m l (i + 1) = usT m l i + accT m l i l.length ∧ usE m l (i + 1) = usE m l i + accE m l i l.length := by
  have h1 : l.take l.length = l := List.take_length
  unfold accT accE
  rw [h1]
  simp only [usT, usE, waitT]
  by_cases h : (i : Int) ∈ l
  · simp only [h, if_true]; omega
  · simp only [h, if_false, Int.mul_zero]; omega
theorem acc_bd {m : Msn} (V : VMsn m) (l : List Int) {i : Nat} (k : Nat) (hi : i + 1 < m.ways.length) : 0 ≤ accT m l i k ∧ accT m l i k ≤ 90100000 ∧ 0 ≤ accE m l i k ∧ accE m l i k ≤ 91000000000 := by
  have wb := wayB_true (waysB_at V.ways (show i < m.ways.length by omega))
  have w0 : 0 ≤ (wy m.ways i).wait ∧ (wy m.ways i).wait ≤ 100000 := by omega
  have h1 := Int.mul_nonneg V.idle.1 w0.1
  have h2 := Int.mul_le_mul V.idle.2 w0.2 w0.1 (by omega)
  have t := tLeg_bd V.leg V.ways (i := i) (j := i + 1) (by omega) hi
  have e := eLeg_bd V (i := i) (j := i + 1) (by omega) hi
  unfold accT accE
  split <;> omega

theorem ints_at {n0 : Nat} {W : World} {v : Value} {l : List Int} {n : Nat} (h : IntsAt n0 W v l) (hl : l.length = n) (h0 : 0 < n) : ∃ b o cap, v = .slice (some ⟨b, o, none⟩) n (n + cap) ∧ b < n0 ∧ ∀ j, j < n → W.cell? ⟨b, o + j, none⟩ = some (.int .i64 (l.getD j 0)) := by
  subst hl
  obtain ⟨_, a, cap, rfl, hc⟩ := h
  rcases hc with hn | ⟨b, o, rfl, hb, hc⟩
  · rw [hn] at h0; simp at h0
  · exact ⟨b, o, cap, rfl, hb, hc⟩
theorem upto_get {f : Nat → Int} {n j : Nat} (hj : j < n) : (upto f n).getD j 0 = f j := by simp [upto, List.getD, hj]

set_option maxRecDepth 8000 in
set_option maxHeartbeats 3000000 in
theorem walk (w : World) (m : Msn) (vw vh vr vl : Value) (l : List Int) (hm : MsnAt w.heap.size w m vw vh vr) (hl : IntsAt w.heap.size w vl l) :
    Calls Try.prog 11 #[.agg (msnCells m vw vh vr), vl] w fun e w' => e = .returned (.bool true) ∧ Below w.heap.size w w' := by
  have HL0 := Lib.hid hl
  obtain ⟨hll, al, capl, rfl, hlc⟩ := hl
  have hlH := Lib.hid hlc
  clear hlc
  obtain ⟨_, a1, cap1, hvw, _⟩ := hm.1
  subst hvw
  have hff := fun w1 h => few34_any m (.slice a1 m.ways.length (m.ways.length + cap1)) vh vr (.slice al l.length (l.length + capl)) l w1 h ⟨al, capl, rfl⟩
  have HF := Lib.hid hff
  have H0 := Has.new w (msnCells m (.slice a1 m.ways.length (m.ways.length + cap1)) vh vr) 26
  have HM := Lib.hid hm
  have H0' := Lib.hid H0
  clear hff hm H0
  unfold msnCells at *
  go_enter Try.func11, Try.ntmps11
  go_wp2_with fail; refine (head34_any _).mono ?_; rintro e w1 ⟨rfl, hb1⟩; have B1 : Below w.heap.size w w1 := ((Below.refl _ w).alloc (Nat.le_refl _) _).trans (hb1.mono (by simp)); have H1 := H0'.out.below (hb1.mono (by simp) : Below (w.heap.size + 1) _ w1) (by omega); have z1 := H1.lt; have H1' := Lib.hid H1; obtain ⟨c0, c1, c2, c3, c4, c5, c6, c7, c8, c9, c10⟩ := msn_cells (m := m) (vw := .slice a1 m.ways.length (m.ways.length + cap1)) (vh := vh) (vr := vr) H1; clear hb1 H1
  go_wp2_with fail; refine (HF.out _ ((HM.out.below B1).mono B1.size)).mono ?_; rintro e w2 ⟨rfl, hb2⟩; have B2 := B1.trans (hb2.mono B1.size); have H2 := H1'.out.below hb2 z1; have z2 := H2.lt; have H2' := Lib.hid H2; obtain ⟨c0, c1, c2, c3, c4, c5, c6, c7, c8, c9, c10⟩ := msn_cells (m := m) (vw := .slice a1 m.ways.length (m.ways.length + cap1)) (vh := vh) (vr := vr) H2; clear hb2 H2
  cases hfew : few34B m l
  · go_wp2
    go_ret
    exact ⟨rfl, B2⟩
  have hfw := Lib.hid hfew
  have h0 : 0 < m.ways.length := few34_ways hfew
  clear hfew
  have hne : ¬ m.ways = [] := by intro h; rw [h] at h0; simp at h0
  have hu1 := fun w1 h h2 => used_all m (.slice a1 m.ways.length (m.ways.length + cap1)) vh vr (.slice al l.length (l.length + capl)) l w1 h h2
  have hR : usedTR m l = if usedOk m l = true then usedT m l else [] := rfl
  have hS : usedER m l = if usedOk m l = true then usedE m l else [] := rfl
  have hC : usedC m l = if usedOk m l = true then 0 else 1 := rfl
  cases hok : usedOk m l
  · rw [hok] at hR hS hC
    simp only [Bool.false_eq_true, if_false] at hR hS hC
    rw [hR, hS, hC] at hu1
    have HU := Lib.hid hu1
    clear hu1 hR hS hC hok
    unfold msnCells at HU
    go_wp2_with fail; refine (HU.out _ ((HM.out.below B2).mono B2.size) ((HL0.out.below B2).mono B2.size)).mono ?_; rintro e w3 ⟨va, vb, rfl, ⟨_, aa, ca, rfl, _⟩, ⟨_, ab, cb, rfl, _⟩, hb3⟩; have B3 := B2.trans (hb3.mono B2.size); have H3 := H2'.out.below hb3 z2; have z3 := H3.lt; have H3' := Lib.hid H3; obtain ⟨c0, c1, c2, c3, c4, c5, c6, c7, c8, c9, c10⟩ := msn_cells (m := m) (vw := .slice a1 m.ways.length (m.ways.length + cap1)) (vh := vh) (vr := vr) H3; clear hb3 H3
    go_wp2
    go_ret
    exact ⟨rfl, B3⟩
  · rw [hok] at hR hS hC
    simp only [if_true] at hR hS hC
    rw [hR, hS, hC] at hu1
    have hvs : validB m = true ∧ stopsB m l = true := by simpa [usedOk] using hok
    have V := (validB_iff m).1 hvs.1
    have HV := Lib.hid (And.intro V hvs)
    have HU := Lib.hid hu1
    have hw0 := V.n41
    have HC := fun (x y : Nat) (hx : x < m.ways.length) (hy : y < m.ways.length) w1 h => pcost_all m (.slice a1 m.ways.length (m.ways.length + cap1)) vh vr (x : Int) (y : Int) w1 h
    have HCC := Lib.hid HC
    clear hu1 hR hS hC hok hvs V HC
    unfold msnCells at HU HCC
    go_wp2_with fail
    refine (HU.out _ ((HM.out.below B2).mono B2.size) ((HL0.out.below B2).mono B2.size)).mono ?_
    rintro e w3 ⟨va, vb, rfl, Ia, Ib, hb3⟩
    obtain ⟨bt, ot, capt, rfl, hbt, hct⟩ := ints_at Ia (n := m.ways.length) (by simp [usedT, upto]) h0
    obtain ⟨be, oe, cape, rfl, hbe, hce⟩ := ints_at Ib (n := m.ways.length) (by simp [usedE, upto]) h0
    have B3 := B2.trans (hb3.mono B2.size)
    have H3 := H2'.out.below hb3 z2
    have z3 := H3.lt
    have H3' := Lib.hid H3
    have hT : ∀ j, j < m.ways.length → w3.cell? ⟨bt, ot + j, none⟩ = some (.int .i64 (usT m l j)) := fun j hj => by rw [hct j hj]; unfold usedT; rw [upto_get hj]
    have hE : ∀ j, j < m.ways.length → w3.cell? ⟨be, oe + j, none⟩ = some (.int .i64 (usE m l j)) := fun j hj => by rw [hce j hj]; unfold usedE; rw [upto_get hj]
    have t0 : w3.cell? ⟨bt, ot, none⟩ = some (.int .i64 0) := hT 0 h0
    have e0 : w3.cell? ⟨be, oe, none⟩ = some (.int .i64 0) := hE 0 h0
    have HT := Lib.hid hT
    have HE := Lib.hid hE
    have h00 : (0 : Int) < m.ways.length := by omega
    clear Ia Ib hb3 hct hce hT hE c0 c1 c2 c3 c4 c5 c6 c7 c8 c9 c10
    obtain ⟨c0, c1, c2, c3, c4, c5, c6, c7, c8, c9, c10⟩ := msn_cells (m := m) (vw := .slice a1 m.ways.length (m.ways.length + cap1)) (vh := vh) (vr := vr) H3
    clear H3
    go_wp2
    go_loopw [5, 9] (fun s i wr => ∃ j : Nat, j < m.ways.length ∧ i = .int .i64 ((j : Int) + 1) ∧ s = .bool true ∧ Below w3.heap.size w3 wr) (fun _ i _ => m.ways.length + 1 - (intOf i).toNat)
    case atStart => exact ⟨0, h0, rfl, rfl, Below.refl _ _⟩
    case round =>
      obtain ⟨j, hj, rfl, rfl, hB⟩ := hrel
      have BX := B3.trans (hB.mono B3.size)
      have hzB := hB.size
      have HX := H3'.out.below hB z3
      have hzx := HX.lt
      clear c0 c1 c2 c3 c4 c5 c6 c7 c8 c9 c10 t0 e0
      obtain ⟨c0, c1, c2, c3, c4, c5, c6, c7, c8, c9, c10⟩ := msn_cells (m := m) (vw := .slice a1 m.ways.length (m.ways.length + cap1)) (vh := vh) (vr := vr) HX
      obtain ⟨V, hv, hst⟩ := HV.out
      by_cases hlt : j + 1 < m.ways.length
      · have hc := HCC.out j (j + 1) hj hlt wr ((HM.out.below BX).mono BX.size)
        have hz0 := acc_zero m l j
        simp only [pT, pE, legE, okL_mk hv hj hlt, if_true, Int.toNat_natCast] at hc
        rw [← hz0.1, ← hz0.2, show ((j + 1 : Nat) : Int) = (j : Int) + 1 from rfl] at hc
        have hc := Lib.hid hc
        have dj : decide ((j : Int) + 1 < (m.ways.length : Int)) = true := by simp; omega
        have HVV := Lib.hid (And.intro V (And.intro hv hst))
        have HXX := Lib.hid HX
        clear V hv hst hz0 HX
        go_wp2_with fail
        refine hc.out.mono ?_
        rintro e w4 ⟨rfl, hb4⟩
        have B4 := hB.trans (hb4.mono hzB)
        have BY := BX.trans (hb4.mono BX.size)
        have HY := HXX.out.below hb4 hzx
        have hzy := HY.lt
        have HYY := Lib.hid HY
        clear hb4 HY c0 c1 c2 c3 c4 c5 c6 c7 c8 c9 c10
        have hz4 := B4.size
        go_wp2
        go_loopw [10, 11, 88] (fun x y k wz => ∃ q : Nat, q ≤ l.length ∧ k = .int .i64 (q : Int) ∧ x = .int .i64 (accT m l j q) ∧ y = .int .i64 (accE m l j q) ∧ Below w4.heap.size w4 wz) (fun _ _ k _ => l.length - (intOf k).toNat)
        case atStart => exact ⟨0, by omega, rfl, rfl, rfl, Below.refl _ _⟩
        case round =>
          obtain ⟨q, hq, rfl, rfl, rfl, hZ⟩ := hrel
          have BZ := BY.trans (hZ.mono BY.size)
          have HZ := HYY.out.below hZ hzy
          have hzz := HZ.lt
          have hz5 := hZ.size
          by_cases hlq : q < l.length
          · obtain ⟨bl, ol, rfl, hbl, hcl⟩ : ∃ b1 o1, al = some ⟨b1, o1, none⟩ ∧ b1 < w.heap.size ∧ ∀ j, j < l.length → w.cell? ⟨b1, o1 + j, none⟩ = some (.int .i64 (l.getD j 0)) := by
              rcases hlH.out with h | h
              · rw [h] at hlq; simp at hlq
              · exact h
            have f1 := (BZ.cell (p := ⟨bl, ol + q, none⟩) hbl).trans (hcl q hlq)
            have dq : decide ((q : Int) < (l.length : Int)) = true := by simp; omega
            obtain ⟨V, hv, hst⟩ := HVV.out
            by_cases hs : l.getD q 0 = (j : Int)
            · rw [hs] at f1
              have hh := Lib.hid (acc_hit hst hlq hs)
              have ab1 := acc_bd V l q hlt
              have ab2 := acc_bd V l (q + 1) hlt
              rw [hh.out.1, hh.out.2] at ab2
              have wb := wayB_true (waysB_at V.ways hj)
              have w0 : 0 ≤ (wy m.ways j).wait ∧ (wy m.ways j).wait ≤ 100000 := by omega
              have i2 := Int.mul_le_mul V.idle.2 w0.2 w0.1 (by omega)
              have i1 := Int.mul_nonneg V.idle.1 w0.1
              obtain ⟨b1, o, cap, hvw, hbb, hcc⟩ := HM.out.1.cells h0
              simp only [Value.slice.injEq, true_and] at hvw
              obtain ⟨rfl, hcap⟩ := hvw
              have f2 := (BZ.cell (p := ⟨b1, o + j * 5 + 3, none⟩) hbb).trans (hcc j hj).2.2.2.1
              have l2 := Low.fact f2
              have c0 := (msn_cells (m := m) (vw := .slice (some ⟨b1, o, none⟩) m.ways.length (m.ways.length + cap1)) (vh := vh) (vr := vr) HZ).1
              have l0 := Low.fact c0
              have l7 := (msn_low (m := m) (vw := .slice (some ⟨b1, o, none⟩) m.ways.length (m.ways.length + cap1)) (vh := vh) (vr := vr) HZ).2.2.2.2.2.2.2.1
              generalize accT m l j q = s1 at *
              generalize accE m l j q = s2 at *
              generalize (wy m.ways j).wait = wt at *
              have m1 : IntKind.i64.wrap (s1 + wt) = s1 + wt := IntWalk.i64_in _ (by omega)
              have m2 : IntKind.i64.wrap (m.idle * wt) = m.idle * wt := IntWalk.i64_in _ (by omega)
              have m3 : IntKind.i64.wrap (s2 + m.idle * wt) = s2 + m.idle * wt := IntWalk.i64_in _ (by omega)
              have hjl : (j : Int) < m.ways.length := by omega
              have hj0 : (0 : Int) ≤ j := by omega
              have HZZ := Lib.hid hZ
              clear V hv hst hcl hcc hcap HZ hZ ab1 ab2 wb w0 i1 i2 hs
              go_wp2
              (refine wp_region_low (by kernel_rfl) (by kernel_rfl) ?_; (iterate 12 (apply quiet_want; (case hw => rfl); (case hval => (intro w1 hw1; have hcx := Low.cells hw1; simp only [Oper.quietAt]; go_simp; first | done | (first | fail) | rfl | exact ⟨rfl, rfl⟩)); simp only [Act.put, List.setIfInBounds_toArray, List.set_cons_zero, List.set_cons_succ])); refine wpQuiet_nil ?_; intro w2 hw2)
              have hBf := Lib.hid (HZZ.out.trans (hw2.out.mono hz5))
              clear hw2 m1 m2 m3 l0 l2 l7 f1 f2 c0
              go_wp2
              go_roundw
              case rel => exact ⟨q + 1, by omega, by go_num, by rw [hh.out.1], by rw [hh.out.2], hBf.out⟩
              case measure => simp [intOf]; omega
            · have hh := Lib.hid (acc_miss (m := m) hlq hs)
              have ds : (l.getD q 0 == (j : Int)) = false := by simpa using hs
              have HZZ := Lib.hid hZ
              generalize l.getD q 0 = s at *
              clear V hv hst hcl HZ hZ hs
              go_wp2
              go_roundw
              case rel => exact ⟨q + 1, by omega, by go_num, by rw [hh.out.1], by rw [hh.out.2], HZZ.out⟩
              case measure => simp [intOf]; omega
          · obtain rfl : q = l.length := by omega
            obtain ⟨V, hv, hst⟩ := HVV.out
            have ha := acc_all m l j
            have ab := acc_bd V l l.length hlt
            have ub := used_bd V l (j + 1) hlt
            have n41 := V.n41
            have B5 := B4.trans (hZ.mono hz4)
            have l1 := Low.fact ((B5.cell (p := ⟨bt, ot + j, none⟩) hbt).trans (HT.out j hj))
            have l2 := Low.fact ((B5.cell (p := ⟨bt, ot + (j + 1), none⟩) hbt).trans (HT.out (j + 1) hlt))
            have l3 := Low.fact ((B5.cell (p := ⟨be, oe + j, none⟩) hbe).trans (HE.out j hj))
            have l4 := Low.fact ((B5.cell (p := ⟨be, oe + (j + 1), none⟩) hbe).trans (HE.out (j + 1) hlt))
            rw [ha.1] at l2 ub
            rw [ha.2] at l4 ub
            generalize accT m l j l.length = s1 at *
            generalize accE m l j l.length = s2 at *
            generalize usT m l j = u1 at *
            generalize usE m l j = u2 at *
            have m1 : IntKind.i64.wrap (u1 + s1) = u1 + s1 := IntWalk.i64_in _ (by omega)
            have m2 : IntKind.i64.wrap (u2 + s2) = u2 + s2 := IntWalk.i64_in _ (by omega)
            have dq : decide ((l.length : Int) < (l.length : Int)) = false := by simp
            have e1 : decide (s1 ≥ 0) = true := decide_eq_true ab.1
            have e2 : decide (s2 ≥ 0) = true := decide_eq_true ab.2.2.1
            have jl : (j : Int) < m.ways.length := by omega
            have jw : IntKind.i64.wrap (j : Int) = j := IntWalk.i64_in _ (by omega)
            have jn : ((j : Int) + 1).toNat = j + 1 := by omega
            have j0 : (0 : Int) ≤ (j : Int) + 1 := by omega
            have j2 : (j : Int) + 1 < m.ways.length := by omega
            have B5' := Lib.hid B5
            have hz6 := B5.size
            clear V hv hst HZ hZ B5 BZ ha ab ub
            go_wp2
            (refine wp_region_low (by kernel_rfl) (by kernel_rfl) ?_; (iterate 42 (apply quiet_want; (case hw => rfl); (case hval => (intro w1 hw1; have hcx := Low.cells hw1; simp only [Oper.quietAt]; go_simp; first | done | (first | fail) | rfl | exact ⟨rfl, rfl⟩)); simp only [Act.put, List.setIfInBounds_toArray, List.set_cons_zero, List.set_cons_succ])); refine wpQuiet_nil ?_; intro w2 hw2)
            have hBf := Lib.hid (B5'.out.trans (hw2.out.mono hz6))
            clear hw2 jw jn l1 l2 l3 l4
            go_wp2
            go_roundw
            case rel => exact ⟨j + 1, hlt, by go_num, rfl, hBf.out⟩
            case measure => simp [intOf]; omega
      · have dj : decide ((j : Int) + 1 < (m.ways.length : Int)) = false := by simp; omega
        have BXX := Lib.hid BX
        clear V hv hst HX BX
        go_wp2
        go_ret
        exact ⟨rfl, BXX.out⟩

set_option maxRecDepth 100000 in
theorem lifted (os : Os) (started : os.Started) (H : Type) (enc : TypeId × Value → H) :
    ReturnsInHanded {} Try.checked os 11 .any (Rows.powerUsedSpec.pre6 enc Try.prog Try.f11 Rows.powerUsedRow.domain false) (Rows.powerUsedSpec.post enc Try.prog Try.f11 false true false false) := by
  refine returnsInHanded_of_change_sized (C := Try.checked) own started (by kernel_rfl) Try.func11
    (ChangeSpec.witness6 (enc := enc) (C := Try.checked) false ⟨#[], #[.agg #[.slice none 0 0, .slice none 0 0, .int .i64 0, .slice none 0 0, .int .i64 0, .int .i64 0, .int .i64 0, .int .i64 0, .int .i64 0, .int .i64 0, .int .i64 0], .slice none 0 0], []⟩ 8 (by kernel_rfl) (by kernel_rfl) (by kernel_rfl) (by kernel_rfl)) ?_
  intro W base args ds gs before hval0 hW hcnd hsz0 _
  have hval : ∀ (j : Nat) t v, Try.f11.params[j]? = some t → args[j]? = some v → Value.okWide Try.prog W .any base t v := hval0
  have hW' := hW
  obtain ⟨p, q, hA0, hV, rfl, hfz, hnd⟩ := hW
  have hA : DataW.TrodAll enc Try.prog W 0 (fun _ => true) true Try.f11.params.toList args.toList ds p := hA0
  have hsz : (DataW.weightsEach Try.prog (Try.f11.params.toList ++ Rows.powerUsedSpec.plain.varTypes Try.prog) (ds ++ gs)).all (· ≤ reachBytes) = true := hsz0
  rw [Try.params11] at hA hval hsz
  obtain ⟨v0, vs0, d0, ds0, p0, q0, hargs, rfl, rfl, h0, r0⟩ := trodAll_cons hA
  obtain ⟨v1, vs1, d1, ds1, p1, q1, rfl, rfl, rfl, h1, r1⟩ := trodAll_cons r0
  obtain ⟨rfl, rfl, rfl⟩ := trodAll_nil r1
  obtain rfl : args = #[v0, v1] := by cases args; simp_all
  obtain ⟨rfl, rfl⟩ := trodVars_none hV
  have k0 := h0
  have lt0 : ∀ x ∈ p0, x.block < W.heap.size := by obtain ⟨m, hm⟩ := k0; exact DataW.trod_lt m _ _ _ hm
  have z0 : ∀ n ∈ d0.weights Try.prog 26, n ≤ reachBytes := fun n hn => by have := List.all_eq_true.1 hsz n (DataW.weights_mem_each (j := 0) (t := 26) (d := d0) rfl rfl n hn); simpa using this
  obtain ⟨a0, vw0, vh0, vr0, rfl, w0⟩ := open_msn (hval 0 26 v0 rfl rfl) h0 z0
  have k1 := h1
  have lt1 : ∀ x ∈ p1, x.block < W.heap.size := by obtain ⟨m, hm⟩ := k1; exact DataW.trod_lt m _ _ _ hm
  have z1 : ∀ n ∈ d1.weights Try.prog 32, n ≤ reachBytes := fun n hn => by have := List.all_eq_true.1 hsz n (DataW.weights_mem_each (j := 1) (t := 32) (d := d1) rfl rfl n hn); simpa using this
  obtain ⟨a1, w1⟩ := open_ints_arg (hval 1 32 v1 rfl rfl) h1 z1
  clear hA0 hval0
  refine (walk W a0 vw0 vh0 vr0 v1 a1 w0 w1).mono fun e W' ⟨he, bel⟩ => ?_
  subst he
  exact ⟨_, rfl, _, _, _, [], _, [], hW', trodAll_mk1 (shut_bool Try.underlying4 _), (trodAll_cons_mk (Below.trod laidOut (by kernel_rfl) (of_decide_eq_true (by kernel_rfl)) k0 bel lt0) (trodAll_cons_mk (Below.trod laidOut (by kernel_rfl) (of_decide_eq_true (by kernel_rfl)) k1 bel lt1) trodAll_mk0)), rfl, bel.frame _, fun h => by cases h⟩

theorem over : Rows.powerUsedRow.holds Try.pinned (OpenSpec.ofChange Rows.powerUsedSpec) :=
  OpenClaim.holds_of_wide 11 Try.f11 rfl rfl rfl rfl rfl rfl rfl ⟨rfl, rfl, rfl, rfl, rfl⟩ rfl rfl rfl rfl rfl (by kernel_rfl) Try.func11 (by kernel_rfl)
    (of_decide_eq_true (by kernel_rfl)) (by unfold Func.isWrapper; first | (rw [if_pos (by decide +kernel)]; kernel_rfl) | (rw [if_neg (by decide +kernel)]; exact ⟨rfl, rfl⟩))
    (fun os started H enc _ => lifted os started H enc)

/-- the statement -/
theorem proved : Rows.PowerUsedSaid := over
#print axioms proved
end Go.Proofs.Ytjnjmpakmgmdbaa.powerUsed
