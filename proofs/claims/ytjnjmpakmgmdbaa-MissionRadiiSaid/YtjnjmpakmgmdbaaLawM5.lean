/- For all missions and ways (up to 8 ways and 12 rocks): Start, the growths of the legs up to a way, and those of its route home are at most 100000 together. No condition. -/
import Derived.Test.YtjnjmpakmgmdbaaHead31
import Derived.Test.YtjnjmpakmgmdbaaOpen
import Derived.Test.YtjnjmpakmgmdbaaRadii
namespace Go.Proofs.Ytjnjmpakmgmdbaa.missionRadii
open Go.ChangeShapes Go.WideShapes Go.ChangeAt Go.RowKit
set_option linter.unusedVariables false
theorem own : ownKnob Try.prog.godebug = none := by kernel_rfl
theorem laidOut : laidOutB Try.prog = true := by kernel_rfl
attribute [local irreducible] wpQuiet

/-- a list that is not empty, by its cells -/
theorem ints_cells {n0 : Nat} {W : World} {v : Value} {l : List Int} {n : Nat} (h : IntsAt n0 W v l) (hl : l.length = n + 1) : ∃ b o cap, v = .slice (some ⟨b, o, none⟩) (n + 1) (n + 1 + cap) ∧ b < n0 ∧ ∀ j, j < n + 1 → W.cell? ⟨b, o + j, none⟩ = some (.int .i64 (l.getD j 0)) := by
  obtain ⟨_, a, cap, rfl, hc⟩ := h
  rcases hc with h0 | ⟨b, o, rfl, hb, hc⟩
  · rw [h0] at hl; simp at hl
  · rw [hl] at hc ⊢
    exact ⟨b, o, cap, rfl, hb, hc⟩
theorem route_get {m : Msn} {a n j : Nat} (hj : j < n + 1) : (intL (upto (itB m a) (n + 1))).getD j 0 = (itB m a j : Int) := by
  simp [intL, upto, List.getD, hj]

set_option maxRecDepth 8000 in
set_option maxHeartbeats 3000000 in
theorem walk (w : World) (m : Msn) (vw vh vr : Value) (i : Int) (hm : MsnAt w.heap.size w m vw vh vr) (w1 : (Lit.int .u8 i).wf = true) :
    Calls Try.prog 7 #[.agg (msnCells m vw vh vr), .int .u8 i] w fun e w' => e = .returned (.bool true) ∧ Below w.heap.size w w' := by
  obtain ⟨i, rfl, hi⟩ := u8_bd w1
  clear w1
  obtain ⟨_, a1, cap1, hvw, _⟩ := hm.1
  subst hvw
  have hff := fun w1 h => few_any m (.slice a1 m.ways.length (m.ways.length + cap1)) vh vr w1 h
  have HF := Lib.hid hff
  have H0 := Has.new w (msnCells m (.slice a1 m.ways.length (m.ways.length + cap1)) vh vr) 26
  have HM := Lib.hid hm
  have H0' := Lib.hid H0
  clear hff hm H0
  unfold msnCells at *
  go_enter Try.func7, Try.ntmps7
  go_wp2_with fail; refine (head31_any _).mono ?_; rintro e w1 ⟨rfl, hb1⟩; have B1 : Below w.heap.size w w1 := ((Below.refl _ w).alloc (Nat.le_refl _) _).trans (hb1.mono (by simp)); have H1 := H0'.out.below (hb1.mono (by simp) : Below (w.heap.size + 1) _ w1) (by omega); have z1 := H1.lt; have H1' := Lib.hid H1; obtain ⟨c0, c1, c2, c3, c4, c5, c6, c7, c8, c9, c10⟩ := msn_cells (m := m) (vw := .slice a1 m.ways.length (m.ways.length + cap1)) (vh := vh) (vr := vr) H1; clear hb1 H1
  go_wp2_with fail; refine (HF.out _ ((HM.out.below B1).mono B1.size)).mono ?_; rintro e w2 ⟨rfl, hb2⟩; have B2 := B1.trans (hb2.mono B1.size); have H2 := H1'.out.below hb2 z1; have z2 := H2.lt; have H2' := Lib.hid H2; obtain ⟨c0, c1, c2, c3, c4, c5, c6, c7, c8, c9, c10⟩ := msn_cells (m := m) (vw := .slice a1 m.ways.length (m.ways.length + cap1)) (vh := vh) (vr := vr) H2; clear hb2 H2
  cases hfew : fewB m
  · go_wp2
    go_ret
    exact ⟨rfl, B2⟩
  have hfw := Lib.hid hfew
  clear hfew
  by_cases hl0 : m.ways.length = 0
  · have d0 : ((m.ways.length : Int) == 0) = true := by simp [hl0]
    clear hl0
    go_wp2
    go_ret
    exact ⟨rfl, B2⟩
  have d0 : ((m.ways.length : Int) == 0) = false := by rw [beq_eq_false_iff_ne]; omega
  have h0 : 0 < m.ways.length := by omega
  have hne : ¬ m.ways = [] := by intro h; rw [h] at h0; simp at h0
  clear hl0
  obtain ⟨a, ha1, ha2, ha3⟩ := mod_at (i := i) h0
  have i1 : IntKind.i64.wrap (i : Int) = i := IntWalk.i64_in _ (by omega)
  have hr1 := fun w1 h => route_all m (.slice a1 m.ways.length (m.ways.length + cap1)) vh vr a w1 h
  cases hv : validB m
  · rw [(route_bad a hv).1, (route_bad a hv).2] at hr1
    have HR := Lib.hid hr1
    clear hr1 hv
    unfold msnCells at HR
    go_wp2_with fail
    refine (HR.out _ ((HM.out.below B2).mono B2.size)).mono ?_
    rintro e w3 ⟨v3, rfl, ⟨_, av, cv, rfl, _⟩, hb3⟩
    have B3 := Lib.hid (B2.trans (hb3.mono B2.size))
    clear hb3
    go_wp2
    go_ret
    exact ⟨rfl, B3.out⟩
  · rw [(route_nat hv ha2).1, (route_nat hv ha2).2] at hr1
    have V := (validB_iff m).1 hv
    have hd := dep_le V.ways ha2
    obtain ⟨n, hn⟩ : ∃ n, dep m a = n := ⟨_, rfl⟩
    have hrl := radii_le V.leg V.ways V.start V.grown ha2
    rw [hn] at hr1 hd hrl
    have hlen : (intL (upto (itB m a) (n + 1))).length = n + 1 := by simp [intL, upto]
    have hn41 := V.n41
    have HL := fun (x y : Nat) hx hy w1 h => (leg_nat hv hx hy ▸ leg_all m (.slice a1 m.ways.length (m.ways.length + cap1)) vh vr x y w1 h : Calls Try.prog 17 #[.agg (msnCells m (.slice a1 m.ways.length (m.ways.length + cap1)) vh vr), .int .i64 (x : Int), .int .i64 (y : Int)] w1 fun e w' => e = .returned (.tuple #[.int .i64 (dLeg m x y), .int .i64 (tLeg m x y), .int .i64 (gLeg m x y), .int .i64 0]) ∧ Below w1.heap.size w1 w')
    have HL' := Lib.hid HL
    have HR := Lib.hid hr1
    have HV := Lib.hid (And.intro V (And.intro hlen (And.intro hrl hn)))
    clear hr1 hv V hlen hn hrl HL
    unfold msnCells at HR HL'
    go_wp2_with fail
    refine (HR.out _ ((HM.out.below B2).mono B2.size)).mono ?_
    rintro e w3 ⟨v3, rfl, hI, hb3⟩
    obtain ⟨b2, o2, cap2, rfl, hb2', hcell⟩ := ints_cells hI HV.out.2.1
    have B3 := B2.trans (hb3.mono B2.size)
    have H3 := H2'.out.below hb3 z2
    have z3 := H3.lt
    obtain ⟨c0, c1, c2, c3, c4, c5, c6, c7, c8, c9, c10⟩ := msn_cells (m := m) (vw := .slice a1 m.ways.length (m.ways.length + cap1)) (vh := vh) (vr := vr) H3
    have H3' := Lib.hid H3
    have HCL := Lib.hid hcell
    clear hI hb3 hcell H3 ha1 ha3
    clear c0 c1 c2 c3 c4 c5 c6 c7 c8 c9 c10
    have c2 := H3'.out.cell (i := 2) rfl
    have c0 := H3'.out.cell (i := 0) rfl
    go_wp2
    go_loopw [9, 49] (fun s i wr => ∃ j : Nat, j ≤ a ∧ i = .int .i64 (j : Int) ∧ s = .int .i64 (onsTo m j) ∧ Below w3.heap.size w3 wr) (fun _ i _ => a - (intOf i).toNat)
    case atStart => exact ⟨0, by omega, rfl, rfl, Below.refl _ _⟩
    case round =>
      obtain ⟨j, hj, rfl, rfl, hB⟩ := hrel
      have BX := B3.trans (hB.mono B3.size)
      have hzB := hB.size
      have HX := H3'.out.below hB z3
      have hzx := HX.lt
      obtain ⟨c0, c1, c2, c3, c4, c5, c6, c7, c8, c9, c10⟩ := msn_cells (m := m) (vw := .slice a1 m.ways.length (m.ways.length + cap1)) (vh := vh) (vr := vr) HX
      obtain ⟨V, hlen, hrl, hn⟩ := HV.out
      have ob := ons_bd V.leg V.ways V.start j (by omega)
      by_cases hlt : j < a
      · have gb := gLeg_bd V.leg V.ways (i := j) (j := j + 1) (by omega) (by omega)
        have hs := Lib.hid (show onsTo m (j + 1) = onsTo m j + gLeg m j (j + 1) from rfl)
        have hl := HL'.out j (j + 1) (by omega) (by omega) wr ((HM.out.below BX).mono BX.size)
        rw [show ((j + 1 : Nat) : Int) = (j : Int) + 1 from rfl] at hl
        have hlH := Lib.hid hl
        generalize onsTo m j = s0 at *
        generalize gLeg m j (j + 1) = g0 at *
        have HVV := Lib.hid (And.intro V (And.intro hlen (And.intro hrl hn)))
        have dg : decide (g0 < 0) = false := by simp; omega
        clear V hlen hrl hn hl
        go_wp2_with fail
        refine hlH.out.mono ?_
        rintro e w4 ⟨rfl, hb4⟩
        have B4 := Lib.hid (hB.trans (hb4.mono hzB))
        clear hb4
        go_wp2
        go_roundw
        case rel => exact ⟨j + 1, by omega, by go_num, by rw [hs.out], B4.out⟩
        case measure => simp [intOf]; omega
      · obtain rfl : j = a := by omega
        have HVV := Lib.hid (And.intro V (And.intro hlen (And.intro hrl hn)))
        obtain ⟨s0, hs0⟩ : ∃ s0, onsTo m j = s0 := ⟨_, rfl⟩
        rw [hs0] at ob hrl ⊢
        have hS := Lib.hid (And.intro hs0 hrl)
        clear V hlen hrl hn hs0
        have HXX := Lib.hid HX
        have hBB := Lib.hid hB
        have dj : decide ((j : Int) < (j : Int)) = false := by simp
        clear HX hB
        go_wp2
        go_loopw [9, 15] (fun s i wz => ∃ q : Nat, q ≤ n ∧ i = .int .i64 ((q : Int) + 1) ∧ s = .int .i64 (s0 + homeP m j q) ∧ Below wr.heap.size wr wz) (fun _ i _ => n + 2 - (intOf i).toNat)
        case atStart => exact ⟨0, by omega, rfl, by simp [homeP], Below.refl _ _⟩
        case round =>
          obtain ⟨q, hq, rfl, rfl, hZ⟩ := hrel
          have BZ := BX.trans (hZ.mono BX.size)
          have hzz := hZ.size
          have HZ := HXX.out.below hZ hzx
          have BZ3 := hBB.out.trans (hZ.mono hzB)
          obtain ⟨V, hlen, _, hn⟩ := HVV.out
          by_cases hlt : q < n
          · have hb := home_bd V.leg V.ways ha2 q (by omega)
            have x1 := itB_lt V.ways ha2 (j := q) (by omega)
            have x2 := itB_lt V.ways ha2 (j := q + 1) (by omega)
            have gb := gLeg_bd V.leg V.ways x1 x2
            have hs := Lib.hid (show homeP m j (q + 1) = homeP m j q + gLeg m (itB m j q) (itB m j (q + 1)) from rfl)
            have hl := HL'.out _ _ x1 x2
            have f1 := HCL.out q (by omega)
            have f2 := HCL.out (q + 1) (by omega)
            rw [route_get (by omega)] at f1 f2
            generalize itB m j q = p1 at *
            generalize itB m j (q + 1) = p2 at *
            generalize homeP m j q = s1 at *
            generalize gLeg m p1 p2 = g0 at *
            obtain ⟨c0, c1, c2, c3, c4, c5, c6, c7, c8, c9, c10⟩ := msn_low (m := m) (vw := .slice a1 m.ways.length (m.ways.length + cap1)) (vh := vh) (vr := vr) HZ
            have l1 := Low.fact ((BZ3.cell (p := ⟨b2, o2 + q, none⟩) hb2').trans f1)
            have l2 := Low.fact ((BZ3.cell (p := ⟨b2, o2 + (q + 1), none⟩) hb2').trans f2)
            have hlH := Lib.hid (fun w1 (h : Low _ w1) => hl w1 ((HM.out.below (BZ.trans (h.out.mono BZ.size))).mono (BZ.trans (h.out.mono BZ.size)).size))
            have dg : decide (g0 < 0) = false := by simp; omega
            have d1 : decide ((q : Int) + 1 < (n : Int) + 1) = true := by simp; omega
            have jl : (q : Int) < (n : Int) + 1 := by omega
            have jl' : q < n + 1 := by omega
            have j1 : q + 1 < n + 1 := by omega
            have jw : IntKind.i64.wrap (q : Int) = q := IntWalk.i64_in _ (by omega)
            have jn : ((q : Int) + 1).toNat = q + 1 := by omega
            have j0 : (0 : Int) ≤ (q : Int) + 1 := by omega
            have j2 : (q : Int) + 1 < (n : Int) + 1 := by omega
            clear V hlen hn hl f1 f2 HZ
            go_wp2
            (refine wp_region_low (by kernel_rfl) (by kernel_rfl) ?_; (iterate 20 (apply quiet_want; (case hw => rfl); (case hval => (intro w1 hw1; have hcx := Low.cells hw1; simp only [Oper.quietAt]; go_simp; first | done | (first | (go_at_call 17; with_reducible exact (Low.calls hw1 (hlH.out _ hw1)))) | rfl | exact ⟨rfl, rfl⟩)); simp only [Act.put, List.setIfInBounds_toArray, List.set_cons_zero, List.set_cons_succ])); refine wpQuiet_nil ?_; intro w2 hw2)
            have hBf := Lib.hid (hZ.trans (hw2.out.mono hzz))
            clear hw2 jw jn
            go_wp2
            go_roundw
            case rel => exact ⟨q + 1, by omega, by go_num, by rw [hs.out]; go_num, hBf.out⟩
            case measure => simp [intOf]; omega
          · obtain rfl : q = n := by omega
            have hq0 : Hid (decide (s0 + homeP m j q ≤ 100000) = true) := by show decide _ = true; simpa using hS.out.2
            have d1 : decide ((q : Int) + 1 < (q : Int) + 1) = false := by simp
            have dd := hq0.out
            have BZZ := Lib.hid BZ
            clear V hlen hn HZ BZ3 BZ
            go_wp2
            go_ret
            exact ⟨rfl, BZZ.out⟩

set_option maxRecDepth 100000 in
theorem lifted (os : Os) (started : os.Started) (H : Type) (enc : TypeId × Value → H) :
    ReturnsInHanded {} Try.checked os 7 .any (Rows.missionRadiiSpec.pre6 enc Try.prog Try.f7 Rows.missionRadiiRow.domain false) (Rows.missionRadiiSpec.post enc Try.prog Try.f7 false true false false) := by
  refine returnsInHanded_of_change_sized (C := Try.checked) own started (by kernel_rfl) Try.func7
    (ChangeSpec.witness6 (enc := enc) (C := Try.checked) false ⟨#[], #[.agg #[.slice none 0 0, .slice none 0 0, .int .i64 0, .slice none 0 0, .int .i64 0, .int .i64 0, .int .i64 0, .int .i64 0, .int .i64 0, .int .i64 0, .int .i64 0], .int .u8 0], []⟩ 8 (by kernel_rfl) (by kernel_rfl) (by kernel_rfl) (by kernel_rfl)) ?_
  intro W base args ds gs before hval0 hW hcnd hsz0 _
  have hval : ∀ (j : Nat) t v, Try.f7.params[j]? = some t → args[j]? = some v → Value.okWide Try.prog W .any base t v := hval0
  have hW' := hW
  obtain ⟨p, q, hA0, hV, rfl, hfz, hnd⟩ := hW
  have hA : DataW.TrodAll enc Try.prog W 0 (fun _ => true) true Try.f7.params.toList args.toList ds p := hA0
  have hsz : (DataW.weightsEach Try.prog (Try.f7.params.toList ++ Rows.missionRadiiSpec.plain.varTypes Try.prog) (ds ++ gs)).all (· ≤ reachBytes) = true := hsz0
  rw [Try.params7] at hA hval hsz
  obtain ⟨v0, vs0, d0, ds0, p0, q0, hargs, rfl, rfl, h0, r0⟩ := trodAll_cons hA
  obtain ⟨v1, vs1, d1, ds1, p1, q1, rfl, rfl, rfl, h1, r1⟩ := trodAll_cons r0
  obtain ⟨rfl, rfl, rfl⟩ := trodAll_nil r1
  obtain rfl : args = #[v0, v1] := by cases args; simp_all
  obtain ⟨rfl, rfl⟩ := trodVars_none hV
  have k0 := h0
  have lt0 : ∀ x ∈ p0, x.block < W.heap.size := by obtain ⟨m, hm⟩ := k0; exact DataW.trod_lt m _ _ _ hm
  have z0 : ∀ n ∈ d0.weights Try.prog 26, n ≤ reachBytes := fun n hn => by have := List.all_eq_true.1 hsz n (DataW.weights_mem_each (j := 0) (t := 26) (d := d0) rfl rfl n hn); simpa using this
  obtain ⟨a0, vw0, vh0, vr0, rfl, w0⟩ := open_msn (hval 0 26 v0 rfl rfl) h0 z0
  obtain ⟨a1, rfl, rfl, rfl, w1⟩ := open_int Try.underlying5 (hval 1 5 v1 rfl rfl) h1
  clear hA0 hval0
  refine (walk W a0 vw0 vh0 vr0 a1 w0 w1).mono fun e W' ⟨he, bel⟩ => ?_
  subst he
  exact ⟨_, rfl, _, _, _, [], _, [], hW', trodAll_mk1 (shut_bool Try.underlying4 _), (trodAll_cons_mk (Below.trod laidOut (by kernel_rfl) (of_decide_eq_true (by kernel_rfl)) k0 bel lt0) (trodAll_cons_mk (shut_int Try.underlying5 w1) trodAll_mk0)), rfl, bel.frame _, fun h => by cases h⟩

theorem over : Rows.missionRadiiRow.holds Try.pinned (OpenSpec.ofChange Rows.missionRadiiSpec) :=
  OpenClaim.holds_of_wide 7 Try.f7 rfl rfl rfl rfl rfl rfl rfl ⟨rfl, rfl, rfl, rfl, rfl⟩ rfl rfl rfl rfl rfl (by kernel_rfl) Try.func7 (by kernel_rfl)
    (of_decide_eq_true (by kernel_rfl)) (by unfold Func.isWrapper; first | (rw [if_pos (by decide +kernel)]; kernel_rfl) | (rw [if_neg (by decide +kernel)]; exact ⟨rfl, rfl⟩))
    (fun os started H enc _ => lifted os started H enc)

/-- the statement -/
theorem proved : Rows.MissionRadiiSaid := over
#print axioms proved
end Go.Proofs.Ytjnjmpakmgmdbaa.missionRadii
