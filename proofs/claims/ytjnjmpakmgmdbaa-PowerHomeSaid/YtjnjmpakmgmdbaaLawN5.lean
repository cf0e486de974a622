/- For all missions and ways (up to 8 ways and 12 rocks): the way home costs what all legs of the route home cost; that is what the leg to the Back costs, and the way home from there; from way 0 it costs nothing. No condition. -/
import Derived.Test.YtjnjmpakmgmdbaaHead34
import Derived.Test.YtjnjmpakmgmdbaaOpen
namespace Go.Proofs.Ytjnjmpakmgmdbaa.powerHome
open Go.ChangeShapes Go.WideShapes Go.ChangeAt Go.RowKit
set_option linter.unusedVariables false
theorem own : ownKnob Try.prog.godebug = none := by kernel_rfl
theorem laidOut : laidOutB Try.prog = true := by kernel_rfl
attribute [local irreducible] wpQuiet

theorem homeTE_succ (m : Msn) (a : Nat) : ∀ j, homeT m a (j + 1) = tLeg m a (wy m.ways a).back.toNat + homeT m (wy m.ways a).back.toNat j ∧ homeE m a (j + 1) = eLeg m a (wy m.ways a).back.toNat + homeE m (wy m.ways a).back.toNat j
  | 0 => by simp [homeT, homeE, itB]
  | j + 1 => by
    have h := homeTE_succ m a j
    have e1 : homeT m a (j + 1 + 1) = homeT m a (j + 1) + tLeg m (itB m a (j + 1)) (itB m a (j + 1 + 1)) := rfl
    have e2 : homeE m a (j + 1 + 1) = homeE m a (j + 1) + eLeg m (itB m a (j + 1)) (itB m a (j + 1 + 1)) := rfl
    have e3 : homeT m (wy m.ways a).back.toNat (j + 1) = homeT m (wy m.ways a).back.toNat j + tLeg m (itB m (wy m.ways a).back.toNat j) (itB m (wy m.ways a).back.toNat (j + 1)) := rfl
    have e4 : homeE m (wy m.ways a).back.toNat (j + 1) = homeE m (wy m.ways a).back.toNat j + eLeg m (itB m (wy m.ways a).back.toNat j) (itB m (wy m.ways a).back.toNat (j + 1)) := rfl
    rw [e1, e2, e3, e4, h.1, h.2, itB_succ, itB_succ]
    omega
theorem dep_succ {m : Msn} (hw : waysB m.ways = true) {k : Nat} (hk : k < m.ways.length) (h0 : 0 < k) : dep m k = dep m (wy m.ways k).back.toNat + 1 := by
  have hb := back_lt hw hk h0
  have e := dep_end hw hk
  have d0 : dep m k ≠ 0 := by intro h; rw [h] at e; simp [itB] at e; omega
  obtain ⟨d, hd⟩ : ∃ d, dep m k = d + 1 := ⟨dep m k - 1, by omega⟩
  rw [hd, itB_succ] at e
  rcases Nat.lt_or_ge (dep m (wy m.ways k).back.toNat) d with h | h
  · have e2 := dep_end hw (k := (wy m.ways k).back.toNat) (by omega)
    rw [← itB_succ] at e2
    have := dep_pos hw hk (j := dep m (wy m.ways k).back.toNat + 1) (by omega)
    omega
  · rw [hd, dep_of_zero hw (k := (wy m.ways k).back.toNat) (by omega) h e]
theorem home_law {m : Msn} (V : VMsn m) {a : Nat} (ha : a < m.ways.length) :
    homeT m a (dep m a) = homeT m (wy m.ways a).back.toNat (dep m (wy m.ways a).back.toNat) + tLeg m a (wy m.ways a).back.toNat ∧ homeE m a (dep m a) = homeE m (wy m.ways a).back.toNat (dep m (wy m.ways a).back.toNat) + eLeg m a (wy m.ways a).back.toNat := by
  by_cases h : a = 0
  · subst h
    have hb := way_back V.ways ha
    have h0 : (wy m.ways 0).back.toNat = 0 := by omega
    have hd : dep m 0 = 0 := rfl
    have ht : dLeg m 0 0 = 0 := dist_self _ _
    have hl : lastsV m.speed 0 = 0 := by
      have := lasts_law (speed := m.speed) (n := 0) (by omega) V.leg.1
      rcases Int.lt_trichotomy (lastsV m.speed 0) 0 with h | h | h
      · have := Int.mul_lt_mul_of_pos_right h (show 0 < m.speed by have := V.leg.1; omega)
        omega
      · exact h
      · have := Int.mul_le_mul_of_nonneg_right (show 0 ≤ lastsV m.speed 0 - 1 by omega) (show 0 ≤ m.speed by have := V.leg.1; omega)
        omega
    rw [h0, hd]
    simp [homeT, homeE, tLeg, eLeg, ht, hl]
  · rw [dep_succ V.ways ha (by omega)]
    have := homeTE_succ m a (dep m (wy m.ways a).back.toNat)
    omega

set_option maxRecDepth 8000 in
set_option maxHeartbeats 3000000 in
theorem walk (w : World) (m : Msn) (vw vh vr : Value) (i : Int) (hm : MsnAt w.heap.size w m vw vh vr) (w1 : (Lit.int .u8 i).wf = true) :
    Calls Try.prog 13 #[.agg (msnCells m vw vh vr), .int .u8 i] w fun e w' => e = .returned (.bool true) ∧ Below w.heap.size w w' := by
  obtain ⟨i, rfl, hi⟩ := u8_bd w1
  clear w1
  obtain ⟨_, a1, cap1, hvw, _⟩ := hm.1
  subst hvw
  have hff := fun w1 h => few34_any m (.slice a1 m.ways.length (m.ways.length + cap1)) vh vr (.slice none 0 0) [] w1 h ⟨none, 0, rfl⟩
  have HF := Lib.hid hff
  have H0 := Has.new w (msnCells m (.slice a1 m.ways.length (m.ways.length + cap1)) vh vr) 26
  have HM := Lib.hid hm
  have H0' := Lib.hid H0
  clear hff hm H0
  unfold msnCells at *
  go_enter Try.func13, Try.ntmps13
  go_wp2_with fail; refine (head34_any _).mono ?_; rintro e w1 ⟨rfl, hb1⟩; have B1 : Below w.heap.size w w1 := ((Below.refl _ w).alloc (Nat.le_refl _) _).trans (hb1.mono (by simp)); have H1 := H0'.out.below (hb1.mono (by simp) : Below (w.heap.size + 1) _ w1) (by omega); have z1 := H1.lt; have H1' := Lib.hid H1; obtain ⟨c0, c1, c2, c3, c4, c5, c6, c7, c8, c9, c10⟩ := msn_cells (m := m) (vw := .slice a1 m.ways.length (m.ways.length + cap1)) (vh := vh) (vr := vr) H1; clear hb1 H1
  go_wp2_with fail; refine (HF.out _ ((HM.out.below B1).mono B1.size)).mono ?_; rintro e w2 ⟨rfl, hb2⟩; have B2 := B1.trans (hb2.mono B1.size); have H2 := H1'.out.below hb2 z1; have z2 := H2.lt; have H2' := Lib.hid H2; obtain ⟨c0, c1, c2, c3, c4, c5, c6, c7, c8, c9, c10⟩ := msn_cells (m := m) (vw := .slice a1 m.ways.length (m.ways.length + cap1)) (vh := vh) (vr := vr) H2; clear hb2 H2
  cases hfew : few34B m []
  · go_wp2
    go_ret
    exact ⟨rfl, B2⟩
  have hfw := Lib.hid hfew
  have h0 : 0 < m.ways.length := few34_ways hfew
  clear hfew
  have hne : ¬ m.ways = [] := by intro h; rw [h] at h0; simp at h0
  obtain ⟨a, ha1, ha2, ha3⟩ := mod_at (i := i) h0
  have i1 : IntKind.i64.wrap (i : Int) = i := IntWalk.i64_in _ (by omega)
  have hr1 := fun w1 h => route_all m (.slice a1 m.ways.length (m.ways.length + cap1)) vh vr a w1 h
  have hh1 := fun w1 h => phome_all m (.slice a1 m.ways.length (m.ways.length + cap1)) vh vr a w1 h
  cases hv : validB m
  · rw [(route_bad a hv).1, (route_bad a hv).2] at hr1
    have hRE := (route_bad a hv).2
    rw [hRE] at hh1
    have HR := Lib.hid (And.intro hr1 hh1)
    clear hr1 hh1 hv hRE
    unfold msnCells at HR
    go_wp2_with fail; refine (HR.out.2 _ ((HM.out.below B2).mono B2.size)).mono ?_; rintro e w3 ⟨rfl, hb3⟩; have B3 := B2.trans (hb3.mono B2.size); have H3 := H2'.out.below hb3 z2; have z3 := H3.lt; have H3' := Lib.hid H3; obtain ⟨c0, c1, c2, c3, c4, c5, c6, c7, c8, c9, c10⟩ := msn_cells (m := m) (vw := .slice a1 m.ways.length (m.ways.length + cap1)) (vh := vh) (vr := vr) H3; clear hb3 H3
    go_wp2_with fail; refine (HR.out.1 _ ((HM.out.below B3).mono B3.size)).mono ?_; rintro e w4 ⟨v3, rfl, ⟨_, av, cv, rfl, _⟩, hb4⟩; have B4 := B3.trans (hb4.mono B3.size); have H4 := H3'.out.below hb4 z3; have z4 := H4.lt; have H4' := Lib.hid H4; obtain ⟨c0, c1, c2, c3, c4, c5, c6, c7, c8, c9, c10⟩ := msn_cells (m := m) (vw := .slice a1 m.ways.length (m.ways.length + cap1)) (vh := vh) (vr := vr) H4; clear hb4 H4
    go_wp2
    go_ret
    exact ⟨rfl, B4⟩
  · have hRE := (route_nat hv ha2).2
    rw [hRE] at hh1
    rw [(route_nat hv ha2).1, hRE] at hr1
    have V := (validB_iff m).1 hv
    have hd := dep_le V.ways ha2
    have hbk := way_back V.ways ha2
    obtain ⟨b, hb⟩ : ∃ b : Nat, (wy m.ways a).back = b := ⟨(wy m.ways a).back.toNat, by omega⟩
    have hb3 : b < m.ways.length := by omega
    have hlaw := home_law V ha2
    rw [hb, Int.toNat_natCast] at hlaw
    have hh2 := fun w1 h => phome_all m (.slice a1 m.ways.length (m.ways.length + cap1)) vh vr (b : Int) w1 h
    have hk2 := fun w1 h => pcost_all m (.slice a1 m.ways.length (m.ways.length + cap1)) vh vr (a : Int) (b : Int) w1 h
    rw [(route_nat hv hb3).2] at hh2
    simp only [hT, hE, okR_mk hv ha2, okR_mk hv hb3, if_true, Int.toNat_natCast] at hh1 hh2
    simp only [pT, pE, legE, okL_mk hv ha2 hb3, if_true, Int.toNat_natCast] at hk2
    have bd1 := homeTE_bd V ha2 _ (Nat.le_refl _)
    have bd2 := homeTE_bd V hb3 _ (Nat.le_refl _)
    have hdb := dep_le V.ways hb3
    have n41 := V.n41
    have hz : a = 0 → homeT m a (dep m a) = 0 ∧ homeE m a (dep m a) = 0 := fun h => by subst h; exact ⟨rfl, rfl⟩
    obtain ⟨n, hn⟩ : ∃ n, dep m a = n := ⟨_, rfl⟩
    have hlen : (intL (upto (itB m a) (n + 1))).length = n + 1 := by simp [intL, upto]
    have HC := fun (x y : Nat) (hx : x < m.ways.length) (hy : y < m.ways.length) w1 h => pcost_all m (.slice a1 m.ways.length (m.ways.length + cap1)) vh vr (x : Int) (y : Int) w1 h
    have hx1 : IntKind.i64.wrap (homeT m b (dep m b) + tLeg m a b) = homeT m a (dep m a) := by rw [hlaw.1]; exact IntWalk.i64_in _ (by omega)
    have hx2 : IntKind.i64.wrap (homeE m b (dep m b) + eLeg m a b) = homeE m a (dep m a) := by rw [hlaw.2]; exact IntWalk.i64_in _ (by omega)
    rw [hn] at hr1 hd hh1 hx1 hx2 hz
    generalize homeT m b (dep m b) = ht2 at *
    generalize homeE m b (dep m b) = he2 at *
    generalize tLeg m a b = kt at *
    generalize eLeg m a b = ke at *
    obtain ⟨T, hT0⟩ : ∃ T, homeT m a n = T := ⟨_, rfl⟩
    obtain ⟨E, hE0⟩ : ∃ E, homeE m a n = E := ⟨_, rfl⟩
    rw [hT0, hE0] at hh1 hz
    rw [hT0] at hx1
    rw [hE0] at hx2
    have HH := Lib.hid (And.intro hh1 (And.intro hr1 (And.intro hh2 (And.intro hk2 HC))))
    have HV := Lib.hid (And.intro hv (And.intro V (And.intro hlen (And.intro hn (And.intro hT0 (And.intro hE0 hz))))))
    have HX := Lib.hid (And.intro hx1 hx2)
    obtain ⟨b1, o, cap, hvw, hbb, hcc⟩ := HM.out.1.cells h0
    simp only [Value.slice.injEq, true_and] at hvw
    obtain ⟨rfl, hcap⟩ := hvw
    have hBK := (hcc a ha2).2.2.2.2
    rw [hb] at hBK
    have HBK := Lib.hid hBK
    clear hcap hcc hBK hh1 hr1 hh2 hk2 HC hv V hlen hn hT0 hE0 hz hx1 hx2 hlaw bd1 bd2 hRE hbk hdb
    unfold msnCells at HH
    go_wp2_with fail; refine (HH.out.1 _ ((HM.out.below B2).mono B2.size)).mono ?_; rintro e w3 ⟨rfl, hb3⟩; have B3 := B2.trans (hb3.mono B2.size); have H3 := H2'.out.below hb3 z2; have z3 := H3.lt; have H3' := Lib.hid H3; obtain ⟨c0, c1, c2, c3, c4, c5, c6, c7, c8, c9, c10⟩ := msn_cells (m := m) (vw := .slice (some ⟨b1, o, none⟩) m.ways.length (m.ways.length + cap1)) (vh := vh) (vr := vr) H3; clear hb3 H3
    go_wp2_with fail
    refine (HH.out.2.1 _ ((HM.out.below B3).mono B3.size)).mono ?_
    rintro e w4 ⟨v3, rfl, hI, hb4⟩
    obtain ⟨b2, o2, cap2, rfl, hb2', hcell⟩ := ints_cells hI HV.out.2.2.1
    have B4 := B3.trans (hb4.mono B3.size)
    have H4 := H3'.out.below hb4 z3
    have z4 := H4.lt
    have H4' := Lib.hid H4
    have HCL := Lib.hid hcell
    clear hI hb4 hcell H4 ha1 ha3
    clear c0 c1 c2 c3 c4 c5 c6 c7 c8 c9 c10
    go_wp2
    go_loopw [12, 13, 14] (fun x y k wr => ∃ q : Nat, q ≤ n ∧ k = .int .i64 ((q : Int) + 1) ∧ x = .int .i64 (homeT m a q) ∧ y = .int .i64 (homeE m a q) ∧ Below w4.heap.size w4 wr) (fun _ _ k _ => n + 2 - (intOf k).toNat)
    case atStart => exact ⟨0, by omega, rfl, rfl, rfl, Below.refl _ _⟩
    case round =>
      obtain ⟨q, hq, rfl, rfl, rfl, hZ⟩ := hrel
      have BZ := B4.trans (hZ.mono B4.size)
      have hzz := hZ.size
      have HZ := H4'.out.below hZ z4
      have hzx := HZ.lt
      obtain ⟨hv, V, hlen, hn, hT0, hE0, hz⟩ := HV.out
      by_cases hlt : q < n
      · have tb := homeTE_bd V ha2 q (by omega)
        have x1 := itB_lt V.ways ha2 (j := q) (by omega)
        have x2 := itB_lt V.ways ha2 (j := q + 1) (by omega)
        have hs := Lib.hid (show homeT m a (q + 1) = homeT m a q + tLeg m (itB m a q) (itB m a (q + 1)) ∧ homeE m a (q + 1) = homeE m a q + eLeg m (itB m a q) (itB m a (q + 1)) from ⟨rfl, rfl⟩)
        have tb2 := homeTE_bd V ha2 (q + 1) (by omega)
        rw [hs.out.1, hs.out.2] at tb2
        have hl := HH.out.2.2.2.2 _ _ x1 x2
        simp only [pT, pE, legE, okL_mk hv x1 x2, if_true, Int.toNat_natCast] at hl
        have f1 := HCL.out q (by omega)
        have f2 := HCL.out (q + 1) (by omega)
        rw [route_get (by omega)] at f1 f2
        generalize itB m a q = p1 at *
        generalize itB m a (q + 1) = p2 at *
        generalize homeT m a q = s1 at *
        generalize homeE m a q = s2 at *
        generalize tLeg m p1 p2 = g1 at *
        generalize eLeg m p1 p2 = g2 at *
        obtain ⟨c0, c1, c2, c3, c4, c5, c6, c7, c8, c9, c10⟩ := msn_low (m := m) (vw := .slice (some ⟨b1, o, none⟩) m.ways.length (m.ways.length + cap1)) (vh := vh) (vr := vr) HZ
        have l1 := Low.fact ((hZ.cell (p := ⟨b2, o2 + q, none⟩) hb2').trans f1)
        have l2 := Low.fact ((hZ.cell (p := ⟨b2, o2 + (q + 1), none⟩) hb2').trans f2)
        have hlH := Lib.hid (fun w1 (h : Low _ w1) => hl w1 ((HM.out.below (BZ.trans (h.out.mono BZ.size))).mono (BZ.trans (h.out.mono BZ.size)).size))
        have d1 : decide ((q : Int) + 1 < (n : Int) + 1) = true := by simp; omega
        have jl : (q : Int) < (n : Int) + 1 := by omega
        have jl' : q < n + 1 := by omega
        have j1 : q + 1 < n + 1 := by omega
        have jw : IntKind.i64.wrap (q : Int) = q := IntWalk.i64_in _ (by omega)
        have jn : ((q : Int) + 1).toNat = q + 1 := by omega
        have j0 : (0 : Int) ≤ (q : Int) + 1 := by omega
        have j2 : (q : Int) + 1 < (n : Int) + 1 := by omega
        have s3 : IntKind.i64.wrap (s1 + g1) = s1 + g1 := IntWalk.i64_in _ (by omega)
        have s4 : IntKind.i64.wrap (s2 + g2) = s2 + g2 := IntWalk.i64_in _ (by omega)
        clear hv V hlen hn hl f1 f2 HZ hT0 hE0 hz tb tb2
        go_wp2
        (refine wp_region_low (by kernel_rfl) (by kernel_rfl) ?_; (iterate 18 (apply quiet_want; (case hw => rfl); (case hval => (intro w1 hw1; have hcx := Low.cells hw1; simp only [Oper.quietAt]; go_simp; first | done | (first | (go_at_call 25; with_reducible exact (Low.calls hw1 (hlH.out _ hw1)))) | rfl | exact ⟨rfl, rfl⟩)); simp only [Act.put, List.setIfInBounds_toArray, List.set_cons_zero, List.set_cons_succ])); refine wpQuiet_nil ?_; intro w2 hw2)
        have hBf := Lib.hid (hZ.trans (hw2.out.mono hzz))
        clear hw2 jw jn
        go_wp2
        go_roundw
        case rel => exact ⟨q + 1, by omega, by go_num, by rw [hs.out.1], by rw [hs.out.2], hBf.out⟩
        case measure => simp [intOf]; omega
      · obtain rfl : q = n := by omega
        rw [hT0, hE0]
        have d1 : decide ((q : Int) + 1 < (q : Int) + 1) = false := by simp
        obtain ⟨c0, c1, c2, c3, c4, c5, c6, c7, c8, c9, c10⟩ := msn_low (m := m) (vw := .slice (some ⟨b1, o, none⟩) m.ways.length (m.ways.length + cap1)) (vh := vh) (vr := vr) HZ
        have l1 := Low.fact ((BZ.cell (p := ⟨b1, o + a * 5 + 4, none⟩) hbb).trans HBK.out)
        have hlH := Lib.hid (fun w1 (h : Low _ w1) => HH.out.2.2.1 w1 ((HM.out.below (BZ.trans (h.out.mono BZ.size))).mono (BZ.trans (h.out.mono BZ.size)).size))
        have hal : (a : Int) < m.ways.length := by omega
        have ha0 : (0 : Int) ≤ a := by omega
        have HZ' := Lib.hid HZ
        have Hz := Lib.hid hz
        clear hv V hlen hn hT0 hE0 HZ hz
        go_wp2
        (refine wp_region_low (by kernel_rfl) (by kernel_rfl) ?_; (iterate 15 (apply quiet_want; (case hw => rfl); (case hval => (intro w1 hw1; have hcx := Low.cells hw1; simp only [Oper.quietAt]; go_simp; first | done | (first | (go_at_call 29; with_reducible exact (Low.calls hw1 (hlH.out _ hw1)))) | rfl | exact ⟨rfl, rfl⟩)); simp only [Act.put, List.setIfInBounds_toArray, List.set_cons_zero, List.set_cons_succ])); refine wpQuiet_nil ?_; intro w2 hw2)
        obtain ⟨wa, rfl⟩ : ∃ wa, wa = w2 := ⟨_, rfl⟩
        have BA := BZ.trans (hw2.out.mono BZ.size)
        have HA := HZ'.out.below hw2.out hzx
        clear c0 c1 c2 c3 c4 c5 c6 c7 c8 c9 c10 l1 hlH hw2
        obtain ⟨c0, c1, c2, c3, c4, c5, c6, c7, c8, c9, c10⟩ := msn_low (m := m) (vw := .slice (some ⟨b1, o, none⟩) m.ways.length (m.ways.length + cap1)) (vh := vh) (vr := vr) HA
        have l1 := Low.fact ((BA.cell (p := ⟨b1, o + a * 5 + 4, none⟩) hbb).trans HBK.out)
        have hlH := Lib.hid (fun w1 (h : Low _ w1) => HH.out.2.2.2.1 w1 ((HM.out.below (BA.trans (h.out.mono BA.size))).mono (BA.trans (h.out.mono BA.size)).size))
        have hza := HA.lt
        clear HA
        go_wp2
        (refine wp_region_low (by kernel_rfl) (by kernel_rfl) ?_; (iterate 16 (apply quiet_want; (case hw => rfl); (case hval => (intro w1 hw1; have hcx := Low.cells hw1; simp only [Oper.quietAt]; go_simp; first | done | (first | (go_at_call 25; with_reducible exact (Low.calls hw1 (hlH.out _ hw1)))) | rfl | exact ⟨rfl, rfl⟩)); simp only [Act.put, List.setIfInBounds_toArray, List.set_cons_zero, List.set_cons_succ])); refine wpQuiet_nil ?_; intro w2 hw2)
        have BF := Lib.hid (BA.trans (hw2.out.mono BA.size))
        clear c0 c1 c2 c3 c4 c5 c6 c7 c8 c9 c10 l1 hlH hw2
        obtain ⟨hx1, hx2⟩ := HX.out
        by_cases ha0 : a = 0
        · obtain ⟨e1, e2⟩ := Hz.out ha0
          subst ha0
          subst e1
          subst e2
          have dk : decide (((0 : Nat) : Int) > 0) = false := rfl
          go_wp2
          go_ret
          exact ⟨rfl, BF.out⟩
        · have dk : decide ((a : Int) > 0) = true := by rw [decide_eq_true_eq]; omega
          go_wp2
          go_ret
          exact ⟨rfl, BF.out⟩
set_option maxRecDepth 100000 in
theorem lifted (os : Os) (started : os.Started) (H : Type) (enc : TypeId × Value → H) :
    ReturnsInHanded {} Try.checked os 13 .any (Rows.powerHomeSpec.pre6 enc Try.prog Try.f13 Rows.powerHomeRow.domain false) (Rows.powerHomeSpec.post enc Try.prog Try.f13 false true false false) := by
  refine returnsInHanded_of_change_sized (C := Try.checked) own started (by kernel_rfl) Try.func13
    (ChangeSpec.witness6 (enc := enc) (C := Try.checked) false ⟨#[], #[.agg #[.slice none 0 0, .slice none 0 0, .int .i64 0, .slice none 0 0, .int .i64 0, .int .i64 0, .int .i64 0, .int .i64 0, .int .i64 0, .int .i64 0, .int .i64 0], .int .u8 0], []⟩ 8 (by kernel_rfl) (by kernel_rfl) (by kernel_rfl) (by kernel_rfl)) ?_
  intro W base args ds gs before hval0 hW hcnd hsz0 _
  have hval : ∀ (j : Nat) t v, Try.f13.params[j]? = some t → args[j]? = some v → Value.okWide Try.prog W .any base t v := hval0
  have hW' := hW
  obtain ⟨p, q, hA0, hV, rfl, hfz, hnd⟩ := hW
  have hA : DataW.TrodAll enc Try.prog W 0 (fun _ => true) true Try.f13.params.toList args.toList ds p := hA0
  have hsz : (DataW.weightsEach Try.prog (Try.f13.params.toList ++ Rows.powerHomeSpec.plain.varTypes Try.prog) (ds ++ gs)).all (· ≤ reachBytes) = true := hsz0
  rw [Try.params13] at hA hval hsz
  obtain ⟨v0, vs0, d0, ds0, p0, q0, hargs, rfl, rfl, h0, r0⟩ := trodAll_cons hA
  obtain ⟨v1, vs1, d1, ds1, p1, q1, rfl, rfl, rfl, h1, r1⟩ := trodAll_cons r0
  obtain ⟨rfl, rfl, rfl⟩ := trodAll_nil r1
  obtain rfl : args = #[v0, v1] := by cases args; simp_all
  obtain ⟨rfl, rfl⟩ := trodVars_none hV
  have k0 := h0
  have lt0 : ∀ x ∈ p0, x.block < W.heap.size := by obtain ⟨m, hm⟩ := k0; exact DataW.trod_lt m _ _ _ hm
  have z0 : ∀ n ∈ d0.weights Try.prog 26, n ≤ reachBytes := fun n hn => by have := List.all_eq_true.1 hsz n (DataW.weights_mem_each (j := 0) (t := 26) (d := d0) rfl rfl n hn); simpa using this
  obtain ⟨a0, vw0, vh0, vr0, rfl, w0⟩ := open_msn (hval 0 26 v0 rfl rfl) h0 z0
  obtain ⟨a1, rfl, rfl, rfl, w1⟩ := open_int Try.underlying5 (hval 1 5 v1 rfl rfl) h1
  clear hA0 hval0
  refine (walk W a0 vw0 vh0 vr0 a1 w0 w1).mono fun e W' ⟨he, bel⟩ => ?_
  subst he
  exact ⟨_, rfl, _, _, _, [], _, [], hW', trodAll_mk1 (shut_bool Try.underlying4 _), (trodAll_cons_mk (Below.trod laidOut (by kernel_rfl) (of_decide_eq_true (by kernel_rfl)) k0 bel lt0) (trodAll_cons_mk (shut_int Try.underlying5 w1) trodAll_mk0)), rfl, bel.frame _, fun h => by cases h⟩

theorem over : Rows.powerHomeRow.holds Try.pinned (OpenSpec.ofChange Rows.powerHomeSpec) :=
  OpenClaim.holds_of_wide 13 Try.f13 rfl rfl rfl rfl rfl rfl rfl ⟨rfl, rfl, rfl, rfl, rfl⟩ rfl rfl rfl rfl rfl (by kernel_rfl) Try.func13 (by kernel_rfl)
    (of_decide_eq_true (by kernel_rfl)) (by unfold Func.isWrapper; first | (rw [if_pos (by decide +kernel)]; kernel_rfl) | (rw [if_neg (by decide +kernel)]; exact ⟨rfl, rfl⟩))
    (fun os started H enc _ => lifted os started H enc)

/-- the statement -/
theorem proved : Rows.PowerHomeSaid := over
#print axioms proved
end Go.Proofs.Ytjnjmpakmgmdbaa.powerHome
