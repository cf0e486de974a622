/- For all missions and ways (up to 8 ways and 12 rocks): a route home begins with the way, falls strictly, and ends with 0; each way is the Back of the one before. No condition. -/
import Derived.Test.YtjnjmpakmgmdbaaHead31
import Derived.Test.YtjnjmpakmgmdbaaOpen
namespace Go.Proofs.Ytjnjmpakmgmdbaa.missionRoutes
open Go.ChangeShapes Go.WideShapes Go.ChangeAt Go.RowKit
set_option linter.unusedVariables false
theorem own : ownKnob Try.prog.godebug = none := by kernel_rfl
theorem laidOut : laidOutB Try.prog = true := by kernel_rfl
attribute [local irreducible] wpQuiet

/-- a list that is not empty, by its cells -/
theorem ints_cells {n0 : Nat} {W : World} {v : Value} {l : List Int} {n : Nat} (h : IntsAt n0 W v l) (hl : l.length = n + 1) : ∃ b o cap, v = .slice (some ⟨b, o, none⟩) (n + 1) (n + 1 + cap) ∧ b < n0 ∧ ∀ j, j < n + 1 → W.cell? ⟨b, o + j, none⟩ = some (.int .i64 (l.getD j 0)) := by
  obtain ⟨_, a, cap, rfl, hc⟩ := h
  rcases hc with h0 | ⟨b, o, rfl, hb, hc⟩
  · rw [h0] at hl; simp at hl
  · rw [hl] at hc ⊢
    exact ⟨b, o, cap, rfl, hb, hc⟩
theorem route_get {m : Msn} {a n j : Nat} (hj : j < n + 1) : (intL (upto (itB m a) (n + 1))).getD j 0 = (itB m a j : Int) := by
  simp [intL, upto, List.getD, hj]

set_option maxRecDepth 8000 in
set_option maxHeartbeats 2000000 in
theorem walk (w : World) (m : Msn) (vw vh vr : Value) (i : Int) (hm : MsnAt w.heap.size w m vw vh vr) (w1 : (Lit.int .u8 i).wf = true) :
    Calls Try.prog 6 #[.agg (msnCells m vw vh vr), .int .u8 i] w fun e w' => e = .returned (.bool true) ∧ Below w.heap.size w w' := by
  obtain ⟨i, rfl, hi⟩ := u8_bd w1
  clear w1
  obtain ⟨_, a1, cap1, hvw, _⟩ := hm.1
  subst hvw
  have hff := fun w1 h => few_any m (.slice a1 m.ways.length (m.ways.length + cap1)) vh vr w1 h
  have HF := Lib.hid hff
  have H0 := Has.new w (msnCells m (.slice a1 m.ways.length (m.ways.length + cap1)) vh vr) 26
  have HM := Lib.hid hm
  have H0' := Lib.hid H0
  clear hff hm H0
  unfold msnCells at *
  go_enter Try.func6, Try.ntmps6
  go_wp2_with fail; refine (head31_any _).mono ?_; rintro e w1 ⟨rfl, hb1⟩; have B1 : Below w.heap.size w w1 := ((Below.refl _ w).alloc (Nat.le_refl _) _).trans (hb1.mono (by simp)); have H1 := H0'.out.below (hb1.mono (by simp) : Below (w.heap.size + 1) _ w1) (by omega); have z1 := H1.lt; have H1' := Lib.hid H1; obtain ⟨c0, c1, c2, c3, c4, c5, c6, c7, c8, c9, c10⟩ := msn_cells (m := m) (vw := .slice a1 m.ways.length (m.ways.length + cap1)) (vh := vh) (vr := vr) H1; clear hb1 H1
  go_wp2_with fail; refine (HF.out _ ((HM.out.below B1).mono B1.size)).mono ?_; rintro e w2 ⟨rfl, hb2⟩; have B2 := B1.trans (hb2.mono B1.size); have H2 := H1'.out.below hb2 z1; have z2 := H2.lt; have H2' := Lib.hid H2; obtain ⟨c0, c1, c2, c3, c4, c5, c6, c7, c8, c9, c10⟩ := msn_cells (m := m) (vw := .slice a1 m.ways.length (m.ways.length + cap1)) (vh := vh) (vr := vr) H2; clear hb2 H2
  cases hfew : fewB m
  · go_wp2
    go_ret
    exact ⟨rfl, B2⟩
  have hfw := Lib.hid hfew
  clear hfew
  by_cases hl0 : m.ways.length = 0
  · have d0 : ((m.ways.length : Int) == 0) = true := by simp [hl0]
    clear hl0
    go_wp2
    go_ret
    exact ⟨rfl, B2⟩
  have d0 : ((m.ways.length : Int) == 0) = false := by rw [beq_eq_false_iff_ne]; omega
  have h0 : 0 < m.ways.length := by omega
  have hne : ¬ m.ways = [] := by intro h; rw [h] at h0; simp at h0
  clear hl0
  obtain ⟨a, ha1, ha2, ha3⟩ := mod_at (i := i) h0
  have i1 : IntKind.i64.wrap (i : Int) = i := IntWalk.i64_in _ (by omega)
  have hr1 := fun w1 h => route_all m (.slice a1 m.ways.length (m.ways.length + cap1)) vh vr a w1 h
  cases hv : validB m
  · rw [(route_bad a hv).1, (route_bad a hv).2] at hr1
    have HR := Lib.hid hr1
    clear hr1 hv
    unfold msnCells at HR
    go_wp2_with fail
    refine (HR.out _ ((HM.out.below B2).mono B2.size)).mono ?_
    rintro e w3 ⟨v3, rfl, ⟨_, av, cv, rfl, _⟩, hb3⟩
    have B3 := Lib.hid (B2.trans (hb3.mono B2.size))
    clear hb3
    go_wp2
    go_ret
    exact ⟨rfl, B3.out⟩
  · rw [(route_nat hv ha2).1, (route_nat hv ha2).2] at hr1
    have V := (validB_iff m).1 hv
    have hd := dep_le V.ways ha2
    obtain ⟨n, hn⟩ : ∃ n, dep m a = n := ⟨_, rfl⟩
    have hend := dep_end V.ways ha2
    rw [hn] at hr1 hd hend
    have hlen : (intL (upto (itB m a) (n + 1))).length = n + 1 := by simp [intL, upto]
    obtain ⟨b1, o, cap, hvw, hbb, hcc⟩ := HM.out.1.cells h0
    simp only [Value.slice.injEq, true_and] at hvw
    obtain ⟨rfl, hcap⟩ := hvw
    have hn41 := V.n41
    have HR := Lib.hid hr1
    have HV := Lib.hid (And.intro V.ways (And.intro hlen (And.intro hend hn)))
    have HC := Lib.hid hcc
    clear hr1 hv V hcc hcap hlen hend hn
    unfold msnCells at HR
    go_wp2_with fail
    refine (HR.out _ ((HM.out.below B2).mono B2.size)).mono ?_
    rintro e w3 ⟨v3, rfl, hI, hb3⟩
    obtain ⟨b2, o2, cap2, rfl, hb2', hcell⟩ := ints_cells hI HV.out.2.1
    have B3 := B2.trans (hb3.mono B2.size)
    have H3 := H2'.out.below hb3 z2
    have z3 := H3.lt
    have H3' := Lib.hid H3
    have e0 := hcell 0 (by omega)
    have e1 := hcell n (by omega)
    rw [route_get (by omega)] at e0 e1
    rw [HV.out.2.2.1] at e1
    rw [Nat.add_zero, show itB m a 0 = a from rfl] at e0
    have HCL := Lib.hid hcell
    have hn2 : n ≤ 1000 := by omega
    have dn : decide (n = 0) = decide (n = 0) := rfl
    clear hI hb3 hcell H3 dn ha1 ha3
    go_wp2
    go_loopw [9] (fun i wr => ∃ j : Nat, j ≤ n ∧ i = .int .i64 ((j : Int) + 1) ∧ Below w3.heap.size w3 wr) (fun i _ => n + 2 - (intOf i).toNat)
    case atStart => exact ⟨0, by omega, rfl, Below.refl _ _⟩
    case round =>
      obtain ⟨j, hj, rfl, hB⟩ := hrel
      have hBw := Lib.hid (B3.trans (hB.mono B3.size))
      by_cases hlt : j < n
      · have d1 : decide ((j : Int) + 1 < (n : Int) + 1) = true := by simp; omega
        obtain ⟨hways, hlen, hend, hn⟩ := HV.out
        have q1 := itB_lt hways ha2 (j := j) (by omega)
        have q2 := itB_dec hways ha2 (j := j) (by omega)
        have bk := way_back hways q1
        have f1 := HCL.out j (by omega)
        have f2 := HCL.out (j + 1) (by omega)
        rw [route_get (by omega)] at f1 f2
        obtain ⟨q, hq⟩ : ∃ q, itB m a (j + 1) = q := ⟨_, rfl⟩
        have hbq : (wy m.ways (itB m a j)).back = (q : Int) := by
          have : (wy m.ways (itB m a j)).back.toNat = q := hq
          omega
        have f3 := (HC.out _ q1).2.2.2.2
        rw [hbq] at f3
        rw [hq] at f2 q2
        generalize itB m a j = p at *
        have H4 := H3'.out.below hB z3
        have l1 := Low.fact ((hB.cell (p := ⟨b2, o2 + j, none⟩) hb2').trans f1)
        have l2 := Low.fact ((hB.cell (p := ⟨b2, o2 + (j + 1), none⟩) hb2').trans f2)
        have l3 := Low.fact ((hBw.out.cell (p := ⟨b1, o + p * 5 + 4, none⟩) hbb).trans f3)
        have l4 := Low.fact (H4.cell (i := 0) rfl)
        have dd1 : decide ((q : Int) < 0) = false := by simp
        have dd2 : decide (p ≤ q) = false := by simp; omega
        have pl : (p : Int) < m.ways.length := by omega
        have jl : (j : Int) < (n : Int) + 1 := by omega
        have jl' : j < n + 1 := by omega
        have j1 : j + 1 < n + 1 := by omega
        have jw : IntKind.i64.wrap (j : Int) = j := IntWalk.i64_in _ (by omega)
        have jn : ((j : Int) + 1).toNat = j + 1 := by omega
        have j0 : (0 : Int) ≤ (j : Int) + 1 := by omega
        have j2 : (j : Int) + 1 < (n : Int) + 1 := by omega
        clear f1 f2 f3 hbq hq bk q2 H4 hways hlen hend hn e0 e1
        go_wp2
        (refine wp_region_low (by kernel_rfl) (by kernel_rfl) ?_; (iterate 34 (apply quiet_want; (case hw => rfl); (case hval => (intro w1 hw1; have hcx := Low.cells hw1; simp only [Oper.quietAt]; go_simp; first | done | (first | fail) | rfl | exact ⟨rfl, rfl⟩)); simp only [Act.put, List.setIfInBounds_toArray, List.set_cons_zero, List.set_cons_succ])); refine wpQuiet_nil ?_; intro w2 hw2)
        have hBf := hB.trans (hw2.out.mono hB.size)
        clear hw2
        go_wp2
        go_roundw
        case rel => exact ⟨j + 1, by omega, by go_num, hBf⟩
        case measure => simp [intOf]; omega
      · obtain rfl : j = n := by omega
        have d1 : decide ((j : Int) + 1 < (j : Int) + 1) = false := by simp
        clear e0 e1
        go_wp2
        go_ret
        exact ⟨rfl, hBw.out⟩

set_option maxRecDepth 100000 in
theorem lifted (os : Os) (started : os.Started) (H : Type) (enc : TypeId × Value → H) :
    ReturnsInHanded {} Try.checked os 6 .any (Rows.missionRoutesSpec.pre6 enc Try.prog Try.f6 Rows.missionRoutesRow.domain false) (Rows.missionRoutesSpec.post enc Try.prog Try.f6 false true false false) := by
  refine returnsInHanded_of_change_sized (C := Try.checked) own started (by kernel_rfl) Try.func6
    (ChangeSpec.witness6 (enc := enc) (C := Try.checked) false ⟨#[], #[.agg #[.slice none 0 0, .slice none 0 0, .int .i64 0, .slice none 0 0, .int .i64 0, .int .i64 0, .int .i64 0, .int .i64 0, .int .i64 0, .int .i64 0, .int .i64 0], .int .u8 0], []⟩ 8 (by kernel_rfl) (by kernel_rfl) (by kernel_rfl) (by kernel_rfl)) ?_
  intro W base args ds gs before hval0 hW hcnd hsz0 _
  have hval : ∀ (j : Nat) t v, Try.f6.params[j]? = some t → args[j]? = some v → Value.okWide Try.prog W .any base t v := hval0
  have hW' := hW
  obtain ⟨p, q, hA0, hV, rfl, hfz, hnd⟩ := hW
  have hA : DataW.TrodAll enc Try.prog W 0 (fun _ => true) true Try.f6.params.toList args.toList ds p := hA0
  have hsz : (DataW.weightsEach Try.prog (Try.f6.params.toList ++ Rows.missionRoutesSpec.plain.varTypes Try.prog) (ds ++ gs)).all (· ≤ reachBytes) = true := hsz0
  rw [Try.params6] at hA hval hsz
  obtain ⟨v0, vs0, d0, ds0, p0, q0, hargs, rfl, rfl, h0, r0⟩ := trodAll_cons hA
  obtain ⟨v1, vs1, d1, ds1, p1, q1, rfl, rfl, rfl, h1, r1⟩ := trodAll_cons r0
  obtain ⟨rfl, rfl, rfl⟩ := trodAll_nil r1
  obtain rfl : args = #[v0, v1] := by cases args; simp_all
  obtain ⟨rfl, rfl⟩ := trodVars_none hV
  have k0 := h0
  have lt0 : ∀ x ∈ p0, x.block < W.heap.size := by obtain ⟨m, hm⟩ := k0; exact DataW.trod_lt m _ _ _ hm
  have z0 : ∀ n ∈ d0.weights Try.prog 26, n ≤ reachBytes := fun n hn => by have := List.all_eq_true.1 hsz n (DataW.weights_mem_each (j := 0) (t := 26) (d := d0) rfl rfl n hn); simpa using this
  obtain ⟨a0, vw0, vh0, vr0, rfl, w0⟩ := open_msn (hval 0 26 v0 rfl rfl) h0 z0
  obtain ⟨a1, rfl, rfl, rfl, w1⟩ := open_int Try.underlying5 (hval 1 5 v1 rfl rfl) h1
  clear hA0 hval0
  refine (walk W a0 vw0 vh0 vr0 a1 w0 w1).mono fun e W' ⟨he, bel⟩ => ?_
  subst he
  exact ⟨_, rfl, _, _, _, [], _, [], hW', trodAll_mk1 (shut_bool Try.underlying4 _), (trodAll_cons_mk (Below.trod laidOut (by kernel_rfl) (of_decide_eq_true (by kernel_rfl)) k0 bel lt0) (trodAll_cons_mk (shut_int Try.underlying5 w1) trodAll_mk0)), rfl, bel.frame _, fun h => by cases h⟩

theorem over : Rows.missionRoutesRow.holds Try.pinned (OpenSpec.ofChange Rows.missionRoutesSpec) :=
  OpenClaim.holds_of_wide 6 Try.f6 rfl rfl rfl rfl rfl rfl rfl ⟨rfl, rfl, rfl, rfl, rfl⟩ rfl rfl rfl rfl rfl (by kernel_rfl) Try.func6 (by kernel_rfl)
    (of_decide_eq_true (by kernel_rfl)) (by unfold Func.isWrapper; first | (rw [if_pos (by decide +kernel)]; kernel_rfl) | (rw [if_neg (by decide +kernel)]; exact ⟨rfl, rfl⟩))
    (fun os started H enc _ => lifted os started H enc)

/-- the statement -/
theorem proved : Rows.MissionRoutesSaid := over
#print axioms proved
end Go.Proofs.Ytjnjmpakmgmdbaa.missionRoutes
