/- kind of layer 35's laws. -/
import Derived.Test.YtdkeiadpnnleoaaGreatBin32
import Derived.Test.YtdkeiadpnnleoaaGreatBin29
namespace Go.Proofs.YtdkeiadpnnleoaaGreat
open Go.RowKit
attribute [local irreducible] wpQuiet

theorem lie_both {m : Msn} (V : VMsn m) {r : Int} (h : 0 ≤ r ∧ r ≤ 100000) : bothE (shL (dskL r) (atW m 0)) m.home = 0 := by
  have hr : radOk r = true := by simp [radOk, h]
  have hd : dskL r = diskP r.toNat := by simp [dskL, hr]
  have c := cor_ok V (a := 0) (b := 0) (by have := V.n2; omega) (by have := V.n2; omega) h h
  obtain ⟨⟨hp, -⟩, ha, -⟩ := corE_zero c
  have G := disk_valid (n := r.toNat) (by omega)
  have hv : goValid (diskP r.toNat) = true := by simpa [goValid] using G
  have e2 : shE (dskL r) (atW m 0) = 0 := by rw [hd]; simp [shE, hv, hp, ha]
  have e3 : shL (dskL r) (atW m 0) = mvL (atW m 0) (diskP r.toNat) := by simp only [shL, e2, if_true]; rw [hd]
  rw [e3]
  have hv2 : goValid (mvL (atW m 0) (diskP r.toNat)) = true := by rw [goValid_mv _ G]; exact ha
  simp [bothE, hv2, V.home]
set_option linter.unusedSimpArgs false in
set_option linter.unusedVariables false in
set_option maxRecDepth 8000 in
set_option maxHeartbeats 6400000 in
theorem lkind_any (m : Msn) (vw vh vr vl : Value) (l : List Int) (w : World) (hm : MsnAt w.heap.size w m vw vh vr) (hl : IntsAt w.heap.size w vl l) (hV : validB m = true) (hS : stopsB m l = true) (k : Nat) (hk : k + 1 < m.ways.length) :
    Calls Tryz.prog 47 #[.agg (msnCells m vw vh vr), vl, .int .i64 k] w fun e w' => e = .returned (.int .i64 (kindV m l k)) ∧ Below w.heap.size w w' := by
  have V := (validB_iff m).1 hV
  have n41 := V.n41
  have f1 := fun w1 (B : Below w.heap.size w w1) => radii_new m vw vh vr vl l w1 ((hm.below B).mono B.size) ((hl.below B).mono B.size) hV hS
  have f2 := fun w1 (B : Below w.heap.size w w1) => used_new m vw vh vr vl l w1 ((hm.below B).mono B.size) ((hl.below B).mono B.size) hV hS
  have fr := fun w1 (B : Below w.heap.size w w1) => route_all m vw vh vr ((k + 1 : Nat) : Int) w1 ((hm.below B).mono B.size)
  rw [(route_nat hV hk).1, (route_nat hV hk).2] at fr
  have fh := fun w1 (B : Below w.heap.size w w1) => phome_yes m vw vh vr (k + 1) w1 ((hm.below B).mono B.size) hV hk
  have fl := fun w1 (B : Below w.heap.size w w1) (i j : Nat) hi hj => leg_nat (m := m) (a := i) (b := j) hV hi hj ▸ leg_all m vw vh vr i j w1 ((hm.below B).mono B.size)
  have fc := fun w1 (B : Below w.heap.size w w1) (i j : Nat) u v hi hj hu hv => lclear_any m vw vh vr w1 ((hm.below B).mono B.size) V i j u v hi hj hu hv
  have fw := fun vp p w1 (B : Below w.heap.size w w1) hp => within_any vp vh p m.home w1 hp ((hm.2.1.below B).mono B.size)
  have rb := fun j (hj : j ≤ dep m (k + 1)) => bk_bd V l hk hj
  have hlt := fun j (hj : j ≤ dep m (k + 1)) => itB_lt V.ways hk hj
  have hgb := fun i j hi hj => gLeg_bd V.leg V.ways (i := i) (j := j) hi hj
  have hd := dep_le V.ways hk
  have hte := homeTE_bd V hk _ (Nat.le_refl (dep m (k + 1)))
  have hle := And.intro (lie_both V (rb _ (Nat.le_refl _))) (lie_eq V (rb _ (Nat.le_refl _)))
  have ub := used_bd V l (k + 1) hk
  have HKV : kindV m l k = if clrB m k (rdA m l k) (k + 1) (rdB m l (k + 1)) = false then 1 else if bkC m (k + 1) (rdB m l (k + 1)) (dep m (k + 1)) = false then 5 else if lieB m (bkR m (k + 1) (rdB m l (k + 1)) (dep m (k + 1))) = false then 2 else if usE m l (k + 1) + homeE m (k + 1) (dep m (k + 1)) > m.battery then 3 else if usT m l (k + 1) + homeT m (k + 1) (dep m (k + 1)) > m.deadline then 4 else 0 := rfl
  have rk0 := rd_le V l (k := k) (by omega)
  have rk1 := rd_le V l (k := k + 1) hk
  have hlen : (intL (upto (itB m (k + 1)) (dep m (k + 1) + 1))).length = dep m (k + 1) + 1 := by simp [intL, upto]
  have g1 := fun vb n0 W (h : IntsAt n0 W vb (rdBU m l)) => ints_cells0 h (by rw [rdBU_length]; omega)
  have g2 := fun va n0 W (h : IntsAt n0 W va (rdAU m l)) => ints_cells0 h (by rw [show (rdAU m l).length = m.ways.length from upto_length _ _]; omega)
  have g3 := fun vt n0 W (h : IntsAt n0 W vt (usedT m l)) => ints_cells0 h (by rw [usedT_length]; omega)
  have g4 := fun ve n0 W (h : IntsAt n0 W ve (usedE m l)) => ints_cells0 h (by rw [usedE_length]; omega)
  simp only [rdBU_length, usedT_length, usedE_length, show (rdAU m l).length = m.ways.length from upto_length _ _] at g1 g2 g3 g4
  have y1 : (rdBU m l).getD (k + 1) 0 = rdB m l (k + 1) := rdB_getD hk
  have y2 : (rdAU m l).getD k 0 = rdA m l k := rdA_getD (by omega)
  have y3 : (usedT m l).getD (k + 1) 0 = usT m l (k + 1) := upto_getD _ hk
  have y4 : (usedE m l).getD (k + 1) 0 = usE m l (k + 1) := upto_getD _ hk
  obtain ⟨⟨-, a1, cap1, rfl, hcw⟩, ⟨-, a2, cap2, rfl, -⟩, ⟨-, a3, cap3, rfl, -⟩⟩ := hm
  have HCW := Lib.hid hcw
  clear hcw
  obtain ⟨-, al, cl, rfl, -⟩ := hl
  unfold msnCells at *
  replace f1 := Lib.hid f1
  replace f2 := Lib.hid f2
  replace fr := Lib.hid fr
  replace fh := Lib.hid fh
  replace fl := Lib.hid fl
  replace fc := Lib.hid fc
  replace fw := Lib.hid fw
  replace rb := Lib.hid rb
  replace hlt := Lib.hid hlt
  replace hgb := Lib.hid hgb
  replace hte := Lib.hid hte
  replace hle := Lib.hid hle
  replace ub := Lib.hid ub
  replace HKV := Lib.hid HKV
  replace rk0 := Lib.hid rk0
  replace rk1 := Lib.hid rk1
  replace hlen := Lib.hid hlen
  replace g1 := Lib.hid g1
  replace g2 := Lib.hid g2
  replace g3 := Lib.hid g3
  replace g4 := Lib.hid g4
  replace y1 := Lib.hid y1
  replace y2 := Lib.hid y2
  replace y3 := Lib.hid y3
  replace y4 := Lib.hid y4
  have jk : IntKind.i64.wrap ((k : Int) + 1) = ((k + 1 : Nat) : Int) := by rw [show (k : Int) + 1 = ((k + 1 : Nat) : Int) by omega]; exact IntWalk.i64_in _ (by omega)
  have dK : decide ((m.ways.length : Int) ≤ ((k + 1 : Nat) : Int)) = false := by rw [decide_eq_false_iff_not]; omega
  have nK : ¬ ((m.ways.length : Int) ≤ ((k + 1 : Nat) : Int)) := by omega
  clear V hV hS
  have BW := Lib.hid (Below.refl w.heap.size w)
  go_enter Tryz.func47, Tryz.ntmps47
  go_wp2_with fail
  generalize hXX0 : World.alloc w _ = X0
  obtain ⟨q0, hA, hzX0⟩ := box1 hXX0
  clear hXX0
  have BW := Lib.hid hA
  clear hA
  have MB := Lib.hid q0
  clear q0
  clear hzX0
  obtain ⟨c0, c1, c2, c3, c4, c5, c6, c7, c8, c9, c10⟩ := msn_cells (m := m) MB.out
  refine (f1.out _ BW.out).mono ?_
  rintro e w1 ⟨v1, u1, rfl, p1, q1, b1, -, -⟩
  replace BW := Lib.hid (BW.out.trans (b1.mono BW.out.size))
  have B_X0 := Lib.hid b1
  clear b1
  obtain ⟨b1, o1, e1, hv1, hb1, hc1⟩ := g1.out _ _ _ p1
  subst hv1
  obtain ⟨b1', o1', e1', hv1, hb1', hc1'⟩ := g2.out _ _ _ q1
  subst hv1
  have BE := Lib.hid hc1
  have AF := Lib.hid hc1'
  have LBE := Lib.hid hb1
  have LAF := Lib.hid hb1'
  clear hc1 hc1' hb1 hb1' p1 q1
  clear c0 c1 c2 c3 c4 c5 c6 c7 c8 c9 c10
  obtain ⟨c0, c1, c2, c3, c4, c5, c6, c7, c8, c9, c10⟩ := msn_cells (m := m) (MB.out.below B_X0.out MB.out.lt)
  go_wp2_with fail
  refine (f2.out _ BW.out).mono ?_
  rintro e w2 ⟨v2, u2, rfl, p2, q2, b2, -, -⟩
  replace BW := Lib.hid (BW.out.trans (b2.mono BW.out.size))
  replace B_X0 := Lib.hid (B_X0.out.trans (b2.mono B_X0.out.size))
  have B_w1 := Lib.hid b2
  clear b2
  obtain ⟨b2, o2, e2, hv1, hb2, hc2⟩ := g3.out _ _ _ p2
  subst hv1
  obtain ⟨b2', o2', e2', hv1, hb2', hc2'⟩ := g4.out _ _ _ q2
  subst hv1
  have TI := Lib.hid hc2
  have EN := Lib.hid hc2'
  have LTI := Lib.hid hb2
  have LEN := Lib.hid hb2'
  clear hc2 hc2' hb2 hb2' p2 q2
  clear c0 c1 c2 c3 c4 c5 c6 c7 c8 c9 c10
  obtain ⟨c0, c1, c2, c3, c4, c5, c6, c7, c8, c9, c10⟩ := msn_cells (m := m) (MB.out.below B_X0.out MB.out.lt)
  go_wp2_with fail
  refine (fr.out _ BW.out).mono ?_
  rintro e w3 ⟨v3, rfl, p3, b3⟩
  replace BW := Lib.hid (BW.out.trans (b3.mono BW.out.size))
  replace B_X0 := Lib.hid (B_X0.out.trans (b3.mono B_X0.out.size))
  replace B_w1 := Lib.hid (B_w1.out.trans (b3.mono B_w1.out.size))
  have B_w2 := Lib.hid b3
  clear b3
  obtain ⟨b3, o3, e3, hv1, hb3, hc3⟩ := ints_cells p3 hlen.out
  subst hv1
  have RO := Lib.hid hc3
  have LRO := Lib.hid hb3
  clear hc3 hb3 p3
  clear c0 c1 c2 c3 c4 c5 c6 c7 c8 c9 c10
  obtain ⟨c0, c1, c2, c3, c4, c5, c6, c7, c8, c9, c10⟩ := msn_cells (m := m) (MB.out.below B_X0.out MB.out.lt)
  go_wp2_with fail
  refine (fh.out _ BW.out).mono ?_
  rintro e w4 ⟨rfl, b4⟩
  replace BW := Lib.hid (BW.out.trans (b4.mono BW.out.size))
  replace B_X0 := Lib.hid (B_X0.out.trans (b4.mono B_X0.out.size))
  replace B_w1 := Lib.hid (B_w1.out.trans (b4.mono B_w1.out.size))
  replace B_w2 := Lib.hid (B_w2.out.trans (b4.mono B_w2.out.size))
  have B_w3 := Lib.hid b4
  clear b4
  clear c0 c1 c2 c3 c4 c5 c6 c7 c8 c9 c10
  obtain ⟨c0, c1, c2, c3, c4, c5, c6, c7, c8, c9, c10⟩ := msn_cells (m := m) (MB.out.below B_X0.out MB.out.lt)
  clear c0 c1 c2 c3 c4 c5 c6 c7 c8 c9 c10
  have x1 : w4.cell? ⟨b1, o1 + (k + 1), none⟩ = some (.int .i64 (rdB m l (k + 1))) := ((B_w1.out.cell (p := ⟨b1, o1 + (k + 1), none⟩) LBE.out).trans (BE.out (k + 1) hk)).trans (by rw [y1.out])
  have hk1 : ((k + 1 : Nat) : Int) < m.ways.length := by omega
  have hk0 : (0 : Int) ≤ ((k + 1 : Nat) : Int) := by omega
  go_upto_region 7 with fail
  go_region
  all_goals (go_upto_region 8 with fail)
  have hD := Below.drew (Below.refl w4.heap.size w4)
  generalize hX7 : World.drew w4 = X7 at *
  clear hX7 x1
  replace BW := Lib.hid (BW.out.trans (hD.mono BW.out.size))
  replace B_X0 := Lib.hid (B_X0.out.trans (hD.mono B_X0.out.size))
  replace B_w1 := Lib.hid (B_w1.out.trans (hD.mono B_w1.out.size))
  replace B_w2 := Lib.hid (B_w2.out.trans (hD.mono B_w2.out.size))
  replace B_w3 := Lib.hid (B_w3.out.trans (hD.mono B_w3.out.size))
  clear hD
  have RX := Lib.hid (MB.out.below B_X0.out MB.out.lt)
  have RO7 := Lib.hid (fun j (hj : j < dep m (k + 1) + 1) => (B_w3.out.cell (p := ⟨b3, o3 + j, none⟩) LRO.out).trans (RO.out j hj))
  have LR7 := Lib.hid (Nat.lt_of_lt_of_le LRO.out B_w3.out.size)
  obtain ⟨r0, hr0⟩ : ∃ x, rdB m l (k + 1) = x := ⟨_, rfl⟩
  have HR0 := Lib.hid hr0
  replace rb := rb.out
  replace hle := hle.out
  replace HKV := HKV.out
  simp only [hr0] at rb hle HKV ⊢
  replace rb := Lib.hid rb
  replace hle := Lib.hid hle
  clear hr0
  obtain ⟨n, hn⟩ : ∃ n, dep m (k + 1) = n := ⟨_, rfl⟩
  have HN := Lib.hid hn
  replace rb := rb.out
  replace hle := hle.out
  replace hlt := hlt.out
  replace RO7 := RO7.out
  replace hte := hte.out
  simp only [hn] at rb hle hlt RO7 hd HKV hte ⊢
  replace HKV := Lib.hid HKV
  replace hte := Lib.hid hte
  replace rb := Lib.hid rb
  replace hle := Lib.hid hle
  replace hlt := Lib.hid hlt
  replace RO7 := Lib.hid RO7
  clear hn
  have h70 := RX.out.lt
  go_wp2
  go_loopw [18, 19, 20] (fun c r i wr => ∃ j : Nat, j ≤ n ∧ c = .bool (bkC m (k + 1) r0 j) ∧ r = .int .i64 (bkR m (k + 1) r0 j) ∧ i = .int .i64 ((j : Int) + 1) ∧ Below X7.heap.size X7 wr) (fun _ _ i _ => n + 1 - (intOf i).toNat)
  case atStart => exact ⟨0, Nat.zero_le _, rfl, rfl, rfl, Below.refl _ _⟩
  case round =>
    obtain ⟨j, hj, rfl, rfl, rfl, hB⟩ := hrel
    obtain ⟨wo, hwo⟩ : ∃ x, x = wr := ⟨_, rfl⟩
    subst hwo
    by_cases hjn : j < n
    · have BO := BW.out.trans (hB.mono BW.out.size)
      have BB := Lib.hid (And.intro hB BO)
      clear hB BO
      have h1 := hlt.out j (by omega)
      have h2 := hlt.out (j + 1) (by omega)
      have r1 := rb.out j (by omega)
      have r2 := rb.out (j + 1) (by omega)
      have y1' := RO7.out j (by omega)
      have y2' := RO7.out (j + 1) (by omega)
      rw [route_get (by omega)] at y1' y2'
      replace y1' := (BB.out.1.cell (p := ⟨b3, o3 + j, none⟩) LR7.out).trans y1'
      replace y2' := (BB.out.1.cell (p := ⟨b3, o3 + (j + 1), none⟩) LR7.out).trans y2'
      have RR := RX.out.below BB.out.1 RX.out.lt
      have gl := Lib.hid (fun w2 (B : Low wo w2) => fl.out w2 (BB.out.2.trans (B.out.mono BB.out.2.size)) _ _ h1 h2)
      have gc := Lib.hid (fun w2 (B : Low wo w2) => fc.out w2 (BB.out.2.trans (B.out.mono BB.out.2.size)) _ _ (bkR m (k + 1) r0 j) (bkR m (k + 1) r0 (j + 1)) h1 h2 r1 r2)
      have s1 : Hid (bkR m (k + 1) r0 (j + 1) = bkR m (k + 1) r0 j + gLeg m (itB m (k + 1) j) (itB m (k + 1) (j + 1))) := rfl
      have s2 : Hid (bkC m (k + 1) r0 (j + 1) = (bkC m (k + 1) r0 j && clrB m (itB m (k + 1) j) (bkR m (k + 1) r0 j) (itB m (k + 1) (j + 1)) (bkR m (k + 1) r0 (j + 1)))) := rfl
      have gb := hgb.out _ _ h1 h2
      have jl : (j : Int) + 1 < (n : Int) + 1 := by omega
      have jl1 : (j : Int) < (n : Int) + 1 := by omega
      have jl0 : (0 : Int) ≤ (j : Int) + 1 := by omega
      have jw : IntKind.i64.wrap (j : Int) = (j : Int) := IntWalk.i64_in _ (by omega)
      obtain ⟨ra, hra⟩ : ∃ x, bkR m (k + 1) r0 j = x := ⟨_, rfl⟩
      obtain ⟨rc, hrc⟩ : ∃ x, bkR m (k + 1) r0 (j + 1) = x := ⟨_, rfl⟩
      obtain ⟨ca, hca⟩ : ∃ x, bkC m (k + 1) r0 j = x := ⟨_, rfl⟩
      simp only [hra, hrc, hca] at r1 r2 gc s1 s2 ⊢
      generalize itB m (k + 1) j = p1 at *
      generalize itB m (k + 1) (j + 1) = p2 at *
      generalize gLeg m p1 p2 = gg at *
      generalize dLeg m p1 p2 = dd at *
      generalize tLeg m p1 p2 = tt at *
      generalize clrB m p1 ra p2 rc = cc at *
      have rw1 : IntKind.i64.wrap (ra + gg) = rc := by rw [← s1.out]; exact IntWalk.i64_in _ (by omega)
      have z1 := Low.fact y1'
      have z2 := Low.fact y2'
      have hs12 := Lib.hid (And.intro s1.out s2.out)
      clear s1 s2 y1' y2' h1 h2 r1 r2 gb
      go_wp2
      have q0 := Low.fact (RR.cell (i := 0) rfl)
      have q1 := Low.fact (RR.cell (i := 1) rfl)
      have q2 := Low.fact (RR.cell (i := 2) rfl)
      have q3 := Low.fact (RR.cell (i := 3) rfl)
      have q4 := Low.fact (RR.cell (i := 4) rfl)
      have q5 := Low.fact (RR.cell (i := 5) rfl)
      have q6 := Low.fact (RR.cell (i := 6) rfl)
      have q7 := Low.fact (RR.cell (i := 7) rfl)
      have q8 := Low.fact (RR.cell (i := 8) rfl)
      have q9 := Low.fact (RR.cell (i := 9) rfl)
      have q10 := Low.fact (RR.cell (i := 10) rfl)
      (refine wp_region_low (by kernel_rfl) (by kernel_rfl) ?_; (iterate 20 (apply quiet_want; (case hw => rfl); (case hval => (intro w1 hw1; have hcx := Low.cells hw1; simp only [Oper.quietAt]; go_simp; first | done | (first | (go_at_call 34; exact Low.calls hw1 (gl.out _ hw1))) | rfl | exact ⟨rfl, rfl⟩)); simp only [Act.put, List.setIfInBounds_toArray, List.set_cons_zero, List.set_cons_succ])); refine wpQuiet_nil ?_; intro w2 hw2)
      clear gl
      obtain ⟨wa, hwa⟩ : ∃ x, x = w2 := ⟨_, rfl⟩
      subst hwa
      have hw := Lib.hid hw2
      clear hw2
      cases ca
      · have BB2 := Lib.hid (And.intro (BB.out.1.trans (hw.out.out.mono BB.out.1.size)) (BB.out.2.trans (hw.out.out.mono BB.out.2.size)))
        clear gc
        go_wp2
        (refine wp_region_low (by kernel_rfl) (by kernel_rfl) ?_; (iterate 2 (apply quiet_want; (case hw => rfl); (case hval => (intro w1 hw1; have hcx := Low.cells hw1; simp only [Oper.quietAt]; go_simp; first | done | (first | fail) | rfl | exact ⟨rfl, rfl⟩)); simp only [Act.put, List.setIfInBounds_toArray, List.set_cons_zero, List.set_cons_succ])); (iterate 2 (apply quiet_skip; (case hw => rfl); simp only [Act.put, List.setIfInBounds_toArray, List.set_cons_zero, List.set_cons_succ])); (iterate 2 (apply quiet_want; (case hw => rfl); (case hval => (intro w1 hw1; have hcx := Low.cells hw1; simp only [Oper.quietAt]; go_simp; first | done | (first | fail) | rfl | exact ⟨rfl, rfl⟩)); simp only [Act.put, List.setIfInBounds_toArray, List.set_cons_zero, List.set_cons_succ])); (iterate 15 (apply quiet_skip; (case hw => rfl); simp only [Act.put, List.setIfInBounds_toArray, List.set_cons_zero, List.set_cons_succ])); (iterate 2 (apply quiet_want; (case hw => rfl); (case hval => (intro w1 hw1; have hcx := Low.cells hw1; simp only [Oper.quietAt]; go_simp; first | done | (first | fail) | rfl | exact ⟨rfl, rfl⟩)); simp only [Act.put, List.setIfInBounds_toArray, List.set_cons_zero, List.set_cons_succ])); refine wpQuiet_nil ?_; intro w2 hw2)
        have BB3 := Lib.hid (And.intro (BB2.out.1.trans (hw2.out.mono BB2.out.1.size)) (BB2.out.2.trans (hw2.out.mono BB2.out.2.size)))
        go_wp2
        go_roundw
        case rel => exact ⟨j + 1, by omega, by rw [hs12.out.2]; rfl, by rw [hrc], by go_num, BB3.out.1⟩
        case measure => simp [intOf]; omega
      · have gc2 := Lib.hid (fun w3 (B : Low wa w3) => gc.out w3 (hw.out.out.trans (B.out.mono hw.out.out.size)))
        have BB2 := Lib.hid (And.intro (BB.out.1.trans (hw.out.out.mono BB.out.1.size)) (BB.out.2.trans (hw.out.out.mono BB.out.2.size)))
        replace z1 := Low.fact (z1 _ hw.out)
        replace z2 := Low.fact (z2 _ hw.out)
        replace q0 := Low.fact (q0 _ hw.out)
        replace q1 := Low.fact (q1 _ hw.out)
        replace q2 := Low.fact (q2 _ hw.out)
        replace q3 := Low.fact (q3 _ hw.out)
        replace q4 := Low.fact (q4 _ hw.out)
        replace q5 := Low.fact (q5 _ hw.out)
        replace q6 := Low.fact (q6 _ hw.out)
        replace q7 := Low.fact (q7 _ hw.out)
        replace q8 := Low.fact (q8 _ hw.out)
        replace q9 := Low.fact (q9 _ hw.out)
        replace q10 := Low.fact (q10 _ hw.out)
        clear gc
        go_wp2
        (refine wp_region_low (by kernel_rfl) (by kernel_rfl) ?_; (iterate 23 (apply quiet_want; (case hw => rfl); (case hval => (intro w1 hw1; have hcx := Low.cells hw1; simp only [Oper.quietAt]; go_simp; first | done | (first | (go_at_call 116; exact Low.calls hw1 (gc2.out _ hw1))) | rfl | exact ⟨rfl, rfl⟩)); simp only [Act.put, List.setIfInBounds_toArray, List.set_cons_zero, List.set_cons_succ])); refine wpQuiet_nil ?_; intro w2 hw2)
        have BB3 := Lib.hid (And.intro (BB2.out.1.trans (hw2.out.mono BB2.out.1.size)) (BB2.out.2.trans (hw2.out.mono BB2.out.2.size)))
        go_wp2
        go_roundw
        case rel => exact ⟨j + 1, by omega, by rw [hs12.out.2]; rfl, by rw [hrc], by go_num, BB3.out.1⟩
        case measure => simp [intOf]; omega
    obtain rfl : j = n := by omega

    replace BW := Lib.hid (BW.out.trans (hB.mono BW.out.size))
    replace B_X0 := Lib.hid (B_X0.out.trans (hB.mono B_X0.out.size))
    replace B_w1 := Lib.hid (B_w1.out.trans (hB.mono B_w1.out.size))
    replace B_w2 := Lib.hid (B_w2.out.trans (hB.mono B_w2.out.size))
    replace B_w3 := Lib.hid (B_w3.out.trans (hB.mono B_w3.out.size))
    clear hB
    generalize bkR m (k + 1) r0 j = rr at *
    generalize bkC m (k + 1) r0 j = bb at *
    obtain ⟨ebo, e1', e2', e3'⟩ := hle.out
    unfold atW at ebo e2' e3'
    have fd := fun w1 => mdisk_any rr w1
    rw [e1'] at fd
    have fs := fun v w1 h => mshift_any v (dskL rr) ⟨(wy m.ways 0).x, (wy m.ways 0).y⟩ w1 h
    rw [e2'] at fs
    have fw2 := fun vp w1 B hp => fw.out vp (shL (dskL rr) ⟨(wy m.ways 0).x, (wy m.ways 0).y⟩) w1 B hp
    rw [e3', ebo] at fw2
    generalize shL (dskL rr) ⟨(wy m.ways 0).x, (wy m.ways 0).y⟩ = sl at fs fw2
    generalize dskL rr = dl at fd fs
    clear hle ebo e1' e2' e3'
    generalize lieB m rr = bc at *
    simp only at fs
    have h0 : 0 < m.ways.length := by omega
    obtain ⟨bw, ow, rfl, hbw, hcw⟩ := HCW.out.resolve_left (by intro h; rw [h] at h0; simp at h0)
    obtain ⟨x1, x2, -⟩ := hcw 0 h0
    rw [Nat.zero_mul, Nat.add_zero] at x1 x2
    generalize (wy m.ways 0).x = px at *
    generalize (wy m.ways 0).y = py at *
    replace fd := Lib.hid fd
    replace fs := Lib.hid fs
    replace fw2 := Lib.hid fw2
    have HX12 := Lib.hid (And.intro x1 x2)
    have h0' : (0 : Int) < m.ways.length := by omega
    have dj : decide ((j : Int) + 1 < (j : Int) + 1) = false := by simp
    clear hcw x1 x2 hlt hgb rb
    go_wp2_with fail
    refine (fd.out wo).mono ?_
    rintro e w5 ⟨v9, rfl, p9, b5⟩
    replace BW := Lib.hid (BW.out.trans (b5.mono BW.out.size))
    replace B_X0 := Lib.hid (B_X0.out.trans (b5.mono B_X0.out.size))
    replace B_w1 := Lib.hid (B_w1.out.trans (b5.mono B_w1.out.size))
    replace B_w2 := Lib.hid (B_w2.out.trans (b5.mono B_w2.out.size))
    replace B_w3 := Lib.hid (B_w3.out.trans (b5.mono B_w3.out.size))
    clear b5
    have P1 := Lib.hid p9
    clear p9
    obtain ⟨g1', k1', hv1⟩ := P1.out.len
    subst hv1
    obtain ⟨c0, c1, c2, c3, c4, c5, c6, c7, c8, c9, c10⟩ := msn_cells (m := m) (MB.out.below B_X0.out MB.out.lt)
    have x1 := (BW.out.cell (p := ⟨bw, ow, none⟩) hbw).trans HX12.out.1
    have x2 := (BW.out.cell (p := ⟨bw, ow + 1, none⟩) hbw).trans HX12.out.2
    have x0 : w5.cell? ⟨w.heap.size, 0, none⟩ = some (.slice (some ⟨bw, ow, none⟩) m.ways.length (m.ways.length + cap1)) := (MB.out.below B_X0.out MB.out.lt).cell (i := 0) rfl
    go_wp2_with fail
    refine (fs.out _ _ P1.out).mono ?_
    rintro e w6 ⟨v9, rfl, p9, b6⟩
    replace BW := Lib.hid (BW.out.trans (b6.mono BW.out.size))
    replace B_X0 := Lib.hid (B_X0.out.trans (b6.mono B_X0.out.size))
    replace B_w1 := Lib.hid (B_w1.out.trans (b6.mono B_w1.out.size))
    replace B_w2 := Lib.hid (B_w2.out.trans (b6.mono B_w2.out.size))
    replace B_w3 := Lib.hid (B_w3.out.trans (b6.mono B_w3.out.size))
    have B_w5 := Lib.hid b6
    clear b6
    have P2 := Lib.hid p9
    clear p9
    obtain ⟨g2', k2', hv1⟩ := P2.out.len
    subst hv1
    clear x0 x1 x2
    clear c0 c1 c2 c3 c4 c5 c6 c7 c8 c9 c10
    obtain ⟨c0, c1, c2, c3, c4, c5, c6, c7, c8, c9, c10⟩ := msn_cells (m := m) (MB.out.below B_X0.out MB.out.lt)
    have x0 : w6.cell? ⟨w.heap.size, 1, none⟩ = some (.slice a2 m.home.length (m.home.length + cap2)) := (MB.out.below B_X0.out MB.out.lt).cell (i := 1) rfl
    go_wp2_with fail
    refine (fw2.out _ _ BW.out P2.out).mono ?_
    rintro e w7 ⟨rfl, b7⟩
    replace BW := Lib.hid (BW.out.trans (b7.mono BW.out.size))
    replace B_X0 := Lib.hid (B_X0.out.trans (b7.mono B_X0.out.size))
    replace B_w1 := Lib.hid (B_w1.out.trans (b7.mono B_w1.out.size))
    replace B_w2 := Lib.hid (B_w2.out.trans (b7.mono B_w2.out.size))
    replace B_w3 := Lib.hid (B_w3.out.trans (b7.mono B_w3.out.size))
    replace B_w5 := Lib.hid (B_w5.out.trans (b7.mono B_w5.out.size))
    have B_w6 := Lib.hid b7
    clear b7
    clear x0
    clear c0 c1 c2 c3 c4 c5 c6 c7 c8 c9 c10
    obtain ⟨c0, c1, c2, c3, c4, c5, c6, c7, c8, c9, c10⟩ := msn_cells (m := m) (MB.out.below B_X0.out MB.out.lt)
    have RR := (MB.out.below B_X0.out MB.out.lt)
    have q0 := Low.fact (RR.cell (i := 0) rfl : w7.cell? ⟨w.heap.size, 0, none⟩ = some (.slice (some ⟨bw, ow, none⟩) m.ways.length (m.ways.length + cap1)))
    have q1 := Low.fact (RR.cell (i := 1) rfl : w7.cell? ⟨w.heap.size, 1, none⟩ = some (.slice a2 m.home.length (m.home.length + cap2)))
    have q2 := Low.fact (RR.cell (i := 2) rfl : w7.cell? ⟨w.heap.size, 2, none⟩ = some (.int .i64 m.start))
    have q3 := Low.fact (RR.cell (i := 3) rfl : w7.cell? ⟨w.heap.size, 3, none⟩ = some (.slice a3 m.rocks.length (m.rocks.length + cap3)))
    have q4 := Low.fact (RR.cell (i := 4) rfl : w7.cell? ⟨w.heap.size, 4, none⟩ = some (.int .i64 m.speed))
    have q5 := Low.fact (RR.cell (i := 5) rfl : w7.cell? ⟨w.heap.size, 5, none⟩ = some (.int .i64 m.part))
    have q6 := Low.fact (RR.cell (i := 6) rfl : w7.cell? ⟨w.heap.size, 6, none⟩ = some (.int .i64 m.flow))
    have q7 := Low.fact (RR.cell (i := 7) rfl : w7.cell? ⟨w.heap.size, 7, none⟩ = some (.int .i64 m.idle))
    have q8 := Low.fact (RR.cell (i := 8) rfl : w7.cell? ⟨w.heap.size, 8, none⟩ = some (.int .i64 m.drive))
    have q9 := Low.fact (RR.cell (i := 9) rfl : w7.cell? ⟨w.heap.size, 9, none⟩ = some (.int .i64 m.battery))
    have q10 := Low.fact (RR.cell (i := 10) rfl : w7.cell? ⟨w.heap.size, 10, none⟩ = some (.int .i64 m.deadline))
    have zA := Low.fact (((B_w1.out.cell (p := ⟨b1', o1' + k, none⟩) LAF.out).trans (AF.out k (by omega))).trans (by rw [y2.out]) : w7.cell? ⟨b1', o1' + k, none⟩ = some (.int .i64 (rdA m l k)))
    have zB := Low.fact (((B_w1.out.cell (p := ⟨b1, o1 + (k + 1), none⟩) LBE.out).trans (BE.out (k + 1) hk)).trans (by rw [y1.out, HR0.out]) : w7.cell? ⟨b1, o1 + (k + 1), none⟩ = some (.int .i64 r0))
    have zT := Low.fact (((B_w2.out.cell (p := ⟨b2, o2 + (k + 1), none⟩) LTI.out).trans (TI.out (k + 1) hk)).trans (by rw [y3.out]) : w7.cell? ⟨b2, o2 + (k + 1), none⟩ = some (.int .i64 (usT m l (k + 1))))
    have zE := Low.fact (((B_w2.out.cell (p := ⟨b2', o2' + (k + 1), none⟩) LEN.out).trans (EN.out (k + 1) hk)).trans (by rw [y4.out]) : w7.cell? ⟨b2', o2' + (k + 1), none⟩ = some (.int .i64 (usE m l (k + 1))))
    have gc := fun w3 (B : Low w7 w3) => fc.out w3 (BW.out.trans (B.out.mono BW.out.size)) k (k + 1) (rdA m l k) (rdB m l (k + 1)) (by omega) hk ⟨rk0.out.2.2.1, rk0.out.2.2.2⟩ ⟨rk1.out.1, rk1.out.2.1⟩
    simp only [HR0.out] at gc
    have hub := ub.out
    have hhe := hte.out
    generalize rdA m l k = ra at *
    generalize clrB m k ra (k + 1) r0 = ba at *
    generalize usT m l (k + 1) = uT at *
    generalize usE m l (k + 1) = uE at *
    generalize homeT m (k + 1) j = hT at *
    generalize homeE m (k + 1) j = hE at *
    have wE : IntKind.i64.wrap (uE + hE) = uE + hE := IntWalk.i64_in _ (by omega)
    have wT : IntKind.i64.wrap (uT + hT) = uT + hT := IntWalk.i64_in _ (by omega)
    have hkl : (k : Int) < m.ways.length := by omega
    have hk00 : (0 : Int) ≤ k := by omega
    replace gc := Lib.hid gc
    clear RR hub hhe
    go_wp2
    (refine wp_region_low (by kernel_rfl) (by kernel_rfl) ?_; (iterate 16 (apply quiet_want; (case hw => rfl); (case hval => (intro w1 hw1; have hcx := Low.cells hw1; simp only [Oper.quietAt]; go_simp; first | done | (first | (go_at_call 116; exact Low.calls hw1 (gc.out _ hw1))) | rfl | exact ⟨rfl, rfl⟩)); simp only [Act.put, List.setIfInBounds_toArray, List.set_cons_zero, List.set_cons_succ])); refine wpQuiet_nil ?_; intro w2 hw2)
    clear gc
    obtain ⟨wa, hwa⟩ : ∃ x, x = w2 := ⟨_, rfl⟩
    subst hwa
    have hw := Lib.hid hw2
    have BA := Lib.hid (BW.out.trans (hw2.out.mono BW.out.size))
    clear hw2
    replace q9 := Low.fact (q9 _ hw.out)
    replace q10 := Low.fact (q10 _ hw.out)
    replace zT := Low.fact (zT _ hw.out)
    replace zE := Low.fact (zE _ hw.out)
    clear q0 q1 q2 q3 q4 q5 q6 q7 q8 zA zB
    cases ba
    · go_wp2
      go_ret
      exact ⟨by rw [HKV.out]; simp, BA.out⟩
    cases bb
    · go_wp2
      go_ret
      exact ⟨by rw [HKV.out]; simp, BA.out⟩
    cases bc
    · go_wp2
      go_ret
      exact ⟨by rw [HKV.out]; simp, BA.out⟩
    go_wp2
    (refine wp_region_low (by kernel_rfl) (by kernel_rfl) ?_; (iterate 11 (apply quiet_want; (case hw => rfl); (case hval => (intro w1 hw1; have hcx := Low.cells hw1; simp only [Oper.quietAt]; go_simp; first | done | (first | fail) | rfl | exact ⟨rfl, rfl⟩)); simp only [Act.put, List.setIfInBounds_toArray, List.set_cons_zero, List.set_cons_succ])); refine wpQuiet_nil ?_; intro w2 hw2)
    obtain ⟨wb, hwb⟩ : ∃ x, x = w2 := ⟨_, rfl⟩
    subst hwb
    have hwB := Lib.hid hw2
    have BB := Lib.hid (BA.out.trans (hw2.out.mono BA.out.size))
    clear hw2
    replace q10 := Low.fact (q10 _ hwB.out)
    replace zT := Low.fact (zT _ hwB.out)
    clear q9 zE
    by_cases hbat : uE + hE > m.battery
    · have dB : decide (uE + hE > m.battery) = true := by rw [decide_eq_true_eq]; exact hbat
      go_wp2
      go_ret
      exact ⟨by rw [HKV.out]; simp [hbat], BB.out⟩
    have dB : decide (uE + hE > m.battery) = false := by rw [decide_eq_false_iff_not]; exact hbat
    go_wp2
    (refine wp_region_low (by kernel_rfl) (by kernel_rfl) ?_; (iterate 11 (apply quiet_want; (case hw => rfl); (case hval => (intro w1 hw1; have hcx := Low.cells hw1; simp only [Oper.quietAt]; go_simp; first | done | (first | fail) | rfl | exact ⟨rfl, rfl⟩)); simp only [Act.put, List.setIfInBounds_toArray, List.set_cons_zero, List.set_cons_succ])); refine wpQuiet_nil ?_; intro w2 hw2)
    have BC := Lib.hid (BB.out.trans (hw2.out.mono BB.out.size))
    clear hw2
    by_cases htim : uT + hT > m.deadline
    · have dT : decide (uT + hT > m.deadline) = true := by rw [decide_eq_true_eq]; exact htim
      have HV := Lib.hid (show kindV m l k = 4 by rw [HKV.out, if_neg (by simp), if_neg (by simp), if_neg (by simp), if_neg (by omega), if_pos htim])
      go_wp2
      go_ret
      exact ⟨by rw [HV.out] <;> simp, BC.out⟩
    have dT : decide (uT + hT > m.deadline) = false := by rw [decide_eq_false_iff_not]; exact htim
    have HV := Lib.hid (show kindV m l k = 0 by rw [HKV.out, if_neg (by simp), if_neg (by simp), if_neg (by simp), if_neg (by omega), if_neg htim])
    go_wp2
    go_ret
    exact ⟨by rw [HV.out] <;> simp, BC.out⟩
end Go.Proofs.YtdkeiadpnnleoaaGreat
