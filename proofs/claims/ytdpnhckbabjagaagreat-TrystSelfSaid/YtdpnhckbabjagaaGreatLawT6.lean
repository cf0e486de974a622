/- A vehicle meets one with the same mission and stops at the same way exactly if the range of its disk and itself is at most Range. No condition. -/
import Derived.Test.YtdpnhckbabjagaaGreatBin31
import Derived.Test.YtdpnhckbabjagaaGreatBin28
import Derived.Test.YtdpnhckbabjagaaGreatBin29
import Derived.Test.YtdpnhckbabjagaaGreatBin07
namespace Go.Proofs.YtdpnhckbabjagaaGreat.trystSelf
open Go.ChangeShapes Go.WideShapes Go.ChangeAt Go.RowKit
set_option linter.unusedVariables false
theorem own : ownKnob Tryz.prog.godebug = none := by kernel_rfl
theorem laidOut : laidOutB Tryz.prog = true := by kernel_rfl
attribute [local irreducible] wpQuiet

theorem self_meet {m : Msn} (V : VMsn m) (l : List Int) {k : Nat} (hk : k < m.ways.length) {R W : Int} (hW : 0 ≤ W) : meetB m l m l k k R W = decide (rangeV (diskP (rdA m l k).toNat) (diskP (rdA m l k).toNat) ≤ R) := by
  have r := (rd_le V l hk).2.2
  have g0 := disk_valid (n := (rdA m l k).toNat) (by omega)
  have e : rangeV (dskP m l k) (dskP m l k) = rangeV (diskP (rdA m l k).toNat) (diskP (rdA m l k).toNat) :=
    range_moved _ (trB_iff.2 ⟨goValid_of g0, goValid_of g0⟩) (tr_disk V l V l hk hk)
  unfold meetB
  rw [e, Int.sub_self]
  simp [hW]
theorem self_ok {m : Msn} (V : VMsn m) (l : List Int) {k : Nat} (hk : k < m.ways.length) : rangeE (diskP (rdA m l k).toNat) (diskP (rdA m l k).toNat) = 0 ∧ dskE (rdA m l k) = 0 ∧ dskL (rdA m l k) = diskP (rdA m l k).toNat := by
  have r := (rd_le V l hk).2.2
  have g0 := disk_valid (n := (rdA m l k).toNat) (by omega)
  have q := dsk_ok (a := ⟨0, 0⟩) (u := rdA m l k) (by decide) r
  refine ⟨?_, q.1, q.2.1⟩
  have h : trB (diskP (rdA m l k).toNat) (diskP (rdA m l k).toNat) = true := trB_iff.2 ⟨goValid_of g0, goValid_of g0⟩
  simp [rangeE, h]
theorem ask_wait {m : Msn} {l : List Int} {o : Msn} {lo : List Int} {a b R W : Int} (h : askB m l o lo a b R W = true) : 0 ≤ W := by
  simp only [askB, Bool.and_eq_true, numB, decide_eq_true_eq] at h
  omega

set_option linter.unusedSimpArgs false in
set_option linter.unusedVariables false in
set_option maxRecDepth 8000 in
set_option maxHeartbeats 4000000 in
theorem walk (w : World) (m : Msn) (vw vh vr : Value) (vl : Value) (l : List Int) (wy' R Wt : Int) (hm : MsnAt w.heap.size w m vw vh vr) (hl : IntsAt w.heap.size w vl l) (hwy : (Lit.int .u8 wy').wf = true) (hR : (Lit.int .i64 R).wf = true) (hWt : (Lit.int .i64 Wt).wf = true) :
    Calls Tryz.prog 8 #[.agg (msnCells m vw vh vr), vl, .int .u8 wy', .int .i64 R, .int .i64 Wt] w fun e w' => e = .returned (.bool true) ∧ Below w.heap.size w w' := by
  have fp := fun w1 h1 h2 => rplanned_any m vw vh vr vl l w1 h1 h2
  have ff := fun w1 h1 h2 => few38_any m m vw vh vr vl vw vh vr vl l l w1 h1 h2 h1 h2
  have f3 := fun (k : Nat) w1 h1 h2 => tmeets_any m m vw vh vr vl vw vh vr vl l l k k R Wt w1 h1 h2 h1 h2
  have f4 := fun w1 h1 h2 => radii_all m vw vh vr vl l w1 h1 h2
  obtain ⟨wk, rfl, hwk⟩ := u8_bd hwy
  have MM := Lib.hid hm
  have ML := Lib.hid hl
  have hd := Lib.hid (fun w1 => head38_any w1)
  obtain ⟨⟨-, a1, c1, rfl, -⟩, ⟨-, a2, c2, rfl, -⟩, ⟨-, a3, c3, rfl, -⟩⟩ := hm
  obtain ⟨-, al, cl, rfl, -⟩ := hl
  unfold msnCells at *
  replace ff := Lib.hid ff
  replace f3 := Lib.hid f3
  have B0 := Lib.hid (Below.refl w.heap.size w)
  clear hwy hR hWt
  cases hok : radOkB m l
  · rw [hok] at fp
    replace fp := Lib.hid fp
    replace f4 := Lib.hid f4
    go_enter Tryz.func8, Tryz.ntmps8
    go_wp2_with fail
    generalize hXX0 : World.alloc w _ = X0
    obtain ⟨q0, hA, hzX0⟩ := box1 hXX0
    clear hXX0
    replace MM := Lib.hid ((MM.out.below hA).mono hA.size)
    replace ML := Lib.hid ((ML.out.below hA).mono hA.size)
    have MB := Lib.hid q0
    clear q0
    have BX0 := Lib.hid (B0.out.trans (hA.mono B0.out.size))
    clear hA
    obtain ⟨d0, d1, d2, d3, d4, d5, d6, d7, d8, d9, d10⟩ := msn_cells (m := m) MB.out
    refine (hd.out _).mono ?_
    rintro e w1 ⟨rfl, b1⟩
    have B1 := Lib.hid (BX0.out.trans (b1.mono BX0.out.size))
    replace MM := Lib.hid ((MM.out.below b1).mono b1.size)
    replace ML := Lib.hid ((ML.out.below b1).mono b1.size)
    replace MB := Lib.hid (MB.out.below b1 MB.out.lt)
    clear b1
    clear d0 d1 d2 d3 d4 d5 d6 d7 d8 d9 d10
    obtain ⟨d0, d1, d2, d3, d4, d5, d6, d7, d8, d9, d10⟩ := msn_cells (m := m) MB.out
    go_wp2_with fail
    refine (ff.out _ MM.out ML.out).mono ?_
    rintro e w2 ⟨rfl, b2⟩
    have B2 := Lib.hid (B1.out.trans (b2.mono B1.out.size))
    replace MM := Lib.hid ((MM.out.below b2).mono b2.size)
    replace ML := Lib.hid ((ML.out.below b2).mono b2.size)
    replace MB := Lib.hid (MB.out.below b2 MB.out.lt)
    clear b2
    clear d0 d1 d2 d3 d4 d5 d6 d7 d8 d9 d10
    obtain ⟨d0, d1, d2, d3, d4, d5, d6, d7, d8, d9, d10⟩ := msn_cells (m := m) MB.out
    cases hfew : few38B m l m l
    · go_wp2
      go_ret
      exact ⟨rfl, B2.out⟩
    clear hfew
    go_wp2_with fail
    refine (fp.out _ MM.out ML.out).mono ?_
    rintro e w3 ⟨rfl, b3⟩
    have B3 := Lib.hid (B2.out.trans (b3.mono B2.out.size))
    replace MM := Lib.hid ((MM.out.below b3).mono b3.size)
    replace ML := Lib.hid ((ML.out.below b3).mono b3.size)
    replace MB := Lib.hid (MB.out.below b3 MB.out.lt)
    clear b3
    clear d0 d1 d2 d3 d4 d5 d6 d7 d8 d9 d10
    obtain ⟨d0, d1, d2, d3, d4, d5, d6, d7, d8, d9, d10⟩ := msn_cells (m := m) MB.out
    go_wp2
    go_ret
    exact ⟨rfl, B3.out⟩
  rw [hok] at fp
  have V := (validB_iff m).1 (by simpa [radOkB] using hok : validB m = true ∧ stopsB m l = true).1
  have n2 := V.n2
  have n41 := V.n41
  obtain ⟨k, hk, hkl, -⟩ := mod_at (i := wk) (n := m.ways.length) (by omega)
  have e2 : rdAL m l = rdAU m l := if_pos hok
  have e3 : rdE m l = 0 := if_pos hok
  rw [e2, e3] at f4
  generalize rdBL m l = bl at *
  obtain ⟨s1, s2, s3⟩ := self_ok V l hkl
  have f5 := fun w1 => mdisk_any (rdA m l k) w1
  rw [s2, s3] at f5
  have f6 := fun u v w1 h1 h2 => range_any u v (diskP (rdA m l k).toNat) (diskP (rdA m l k).toNat) w1 h1 h2
  rw [s1] at f6
  have HM := Lib.hid (fun hW => self_meet V l hkl (R := R) (W := Wt) hW)
  replace f3 := f3.out k
  have HA := Lib.hid (fun h => ask_wait (m := m) (l := l) (o := m) (lo := l) (a := k) (b := k) (R := R) (W := Wt) h)
  rw [show ((k : Int)).toNat = k from rfl] at f3
  generalize askB m l m l k k R Wt = ak at *
  generalize hmt : meetB m l m l k k R Wt = mt at *
  generalize rangeV (diskP (rdA m l k).toNat) (diskP (rdA m l k).toNat) = N at *
  generalize diskP (rdA m l k).toNat = dl at *
  replace f3 := Lib.hid f3
  replace f5 := Lib.hid f5
  replace f6 := Lib.hid f6
  have hne : ¬ (m.ways.length : Int) = 0 := by omega
  have hkl' : (k : Int) < m.ways.length := by omega
  have hk0 : (0 : Int) ≤ k := by omega
  have z3 : IntKind.i64.wrap (k : Int) = k := IntWalk.i64_in _ (by omega)
  have z4 : IntKind.i64.wrap (wk : Int) = wk := IntWalk.i64_in _ (by omega)
  have hnil : ¬ m.ways = [] := by intro h; rw [h] at n2; simp at n2
  clear e2 e3 s1 s2 s3 V hok hmt
  replace fp := Lib.hid fp
  replace f4 := Lib.hid f4
  go_enter Tryz.func8, Tryz.ntmps8
  go_wp2_with fail
  generalize hXX0 : World.alloc w _ = X0
  obtain ⟨q0, hA, hzX0⟩ := box1 hXX0
  clear hXX0
  replace MM := Lib.hid ((MM.out.below hA).mono hA.size)
  replace ML := Lib.hid ((ML.out.below hA).mono hA.size)
  have MB := Lib.hid q0
  clear q0
  have BX0 := Lib.hid (B0.out.trans (hA.mono B0.out.size))
  clear hA
  obtain ⟨d0, d1, d2, d3, d4, d5, d6, d7, d8, d9, d10⟩ := msn_cells (m := m) MB.out
  refine (hd.out _).mono ?_
  rintro e w1 ⟨rfl, b1⟩
  have B1 := Lib.hid (BX0.out.trans (b1.mono BX0.out.size))
  replace MM := Lib.hid ((MM.out.below b1).mono b1.size)
  replace ML := Lib.hid ((ML.out.below b1).mono b1.size)
  replace MB := Lib.hid (MB.out.below b1 MB.out.lt)
  clear b1
  clear d0 d1 d2 d3 d4 d5 d6 d7 d8 d9 d10
  obtain ⟨d0, d1, d2, d3, d4, d5, d6, d7, d8, d9, d10⟩ := msn_cells (m := m) MB.out
  go_wp2_with fail
  refine (ff.out _ MM.out ML.out).mono ?_
  rintro e w2 ⟨rfl, b2⟩
  have B2 := Lib.hid (B1.out.trans (b2.mono B1.out.size))
  replace MM := Lib.hid ((MM.out.below b2).mono b2.size)
  replace ML := Lib.hid ((ML.out.below b2).mono b2.size)
  replace MB := Lib.hid (MB.out.below b2 MB.out.lt)
  clear b2
  clear d0 d1 d2 d3 d4 d5 d6 d7 d8 d9 d10
  obtain ⟨d0, d1, d2, d3, d4, d5, d6, d7, d8, d9, d10⟩ := msn_cells (m := m) MB.out
  cases hfew : few38B m l m l
  · go_wp2
    go_ret
    exact ⟨rfl, B2.out⟩
  clear hfew
  go_wp2_with fail
  refine (fp.out _ MM.out ML.out).mono ?_
  rintro e w3 ⟨rfl, b3⟩
  have B3 := Lib.hid (B2.out.trans (b3.mono B2.out.size))
  replace MM := Lib.hid ((MM.out.below b3).mono b3.size)
  replace ML := Lib.hid ((ML.out.below b3).mono b3.size)
  replace MB := Lib.hid (MB.out.below b3 MB.out.lt)
  clear b3
  clear d0 d1 d2 d3 d4 d5 d6 d7 d8 d9 d10
  obtain ⟨d0, d1, d2, d3, d4, d5, d6, d7, d8, d9, d10⟩ := msn_cells (m := m) MB.out
  go_wp2_with fail
  refine (f3.out _ MM.out ML.out).mono ?_
  rintro e w4 ⟨rfl, b4⟩
  have B4 := Lib.hid (B3.out.trans (b4.mono B3.out.size))
  replace MM := Lib.hid ((MM.out.below b4).mono b4.size)
  replace ML := Lib.hid ((ML.out.below b4).mono b4.size)
  replace MB := Lib.hid (MB.out.below b4 MB.out.lt)
  clear b4
  clear d0 d1 d2 d3 d4 d5 d6 d7 d8 d9 d10
  obtain ⟨d0, d1, d2, d3, d4, d5, d6, d7, d8, d9, d10⟩ := msn_cells (m := m) MB.out
  cases ak
  · have z : errB false = 1 := rfl
    rw [z]
    go_wp2
    go_ret
    exact ⟨by simp, B4.out⟩
  have z : errB true = 0 := rfl
  have hm2 := HM.out (HA.out rfl)
  rw [z]
  go_wp2_with fail
  refine (f4.out _ MM.out ML.out).mono ?_
  rintro e w5 ⟨v5, u5, rfl, p5, q5, b5⟩
  have B5 := Lib.hid (B4.out.trans (b5.mono B4.out.size))
  replace MM := Lib.hid ((MM.out.below b5).mono b5.size)
  replace ML := Lib.hid ((ML.out.below b5).mono b5.size)
  replace MB := Lib.hid (MB.out.below b5 MB.out.lt)
  obtain ⟨ba, oa, ca, hva, hba, hca⟩ := ints_cells0 q5 (by rw [rdAU_length]; omega)
  rw [rdAU_length] at hva hca
  subst hva
  have t0 : w5.cell? ⟨ba, oa + k, none⟩ = some (.int .i64 (rdA m l k)) := (hca k hkl).trans (by rw [rdAU, upto_getD _ hkl])
  obtain ⟨-, ga, gc, hv, -⟩ := p5
  subst hv
  clear hca q5
  have dne : ((m.ways.length : Int) != (m.ways.length : Int)) = false := by simp
  generalize rdA m l k = ra at *
  clear b5
  clear d0 d1 d2 d3 d4 d5 d6 d7 d8 d9 d10
  obtain ⟨d0, d1, d2, d3, d4, d5, d6, d7, d8, d9, d10⟩ := msn_cells (m := m) MB.out
  go_wp2_with fail
  refine (f5.out _).mono ?_
  rintro e w6 ⟨v6, rfl, p6, b6⟩
  have B6 := Lib.hid (B5.out.trans (b6.mono B5.out.size))
  replace MM := Lib.hid ((MM.out.below b6).mono b6.size)
  replace ML := Lib.hid ((ML.out.below b6).mono b6.size)
  replace MB := Lib.hid (MB.out.below b6 MB.out.lt)
  have PD := Lib.hid p6
  obtain ⟨g6, k6, hv6⟩ := p6.len
  subst hv6
  clear p6 t0
  clear b6
  clear d0 d1 d2 d3 d4 d5 d6 d7 d8 d9 d10
  obtain ⟨d0, d1, d2, d3, d4, d5, d6, d7, d8, d9, d10⟩ := msn_cells (m := m) MB.out
  go_wp2_with fail
  refine (f6.out _ _ _ PD.out PD.out).mono ?_
  rintro e w7 ⟨rfl, b7⟩
  have B7 := Lib.hid (B6.out.trans (b7.mono B6.out.size))
  replace MM := Lib.hid ((MM.out.below b7).mono b7.size)
  replace ML := Lib.hid ((ML.out.below b7).mono b7.size)
  replace MB := Lib.hid (MB.out.below b7 MB.out.lt)
  replace PD := Lib.hid ((PD.out.below b7).mono b7.size)
  clear b7
  clear d0 d1 d2 d3 d4 d5 d6 d7 d8 d9 d10
  obtain ⟨d0, d1, d2, d3, d4, d5, d6, d7, d8, d9, d10⟩ := msn_cells (m := m) MB.out
  subst hm2
  cases d : decide (N ≤ R)
  · go_wp2
    go_ret
    exact ⟨by simp, B7.out⟩
  · go_wp2
    go_ret
    exact ⟨by simp, B7.out⟩

set_option maxRecDepth 100000 in
theorem lifted (os : Os) (started : os.Started) (H : Type) (enc : TypeId × Value → H) :
    ReturnsInHanded {} Tryz.checked os 8 .any (Rows.trystSelfSpec.pre6 enc Tryz.prog Tryz.f8 Rows.trystSelfRow.domain false) (Rows.trystSelfSpec.post enc Tryz.prog Tryz.f8 false true false false) := by
  refine returnsInHanded_of_change_sized (C := Tryz.checked) own started (by kernel_rfl) Tryz.func8
    (ChangeSpec.witness6 (enc := enc) (C := Tryz.checked) false ⟨#[], #[.agg #[.slice none 0 0, .slice none 0 0, .int .i64 0, .slice none 0 0, .int .i64 0, .int .i64 0, .int .i64 0, .int .i64 0, .int .i64 0, .int .i64 0, .int .i64 0], .slice none 0 0, .int .u8 0, .int .i64 0, .int .i64 0], []⟩ 8 (by kernel_rfl) (by kernel_rfl) (by kernel_rfl) (by kernel_rfl)) ?_
  intro W base args ds gs before hval0 hW hcnd hsz0 _
  have hval : ∀ (j : Nat) t v, Tryz.f8.params[j]? = some t → args[j]? = some v → Value.okWide Tryz.prog W .any base t v := hval0
  have hW' := hW
  obtain ⟨p, q, hA0, hV, rfl, hfz, hnd⟩ := hW
  have hA : DataW.TrodAll enc Tryz.prog W 0 (fun _ => true) true Tryz.f8.params.toList args.toList ds p := hA0
  have hsz : (DataW.weightsEach Tryz.prog (Tryz.f8.params.toList ++ Rows.trystSelfSpec.plain.varTypes Tryz.prog) (ds ++ gs)).all (· ≤ reachBytes) = true := hsz0
  rw [Tryz.params8] at hA hval hsz
  obtain ⟨v0, vs0, d0, ds0, p0, q0, hargs, rfl, rfl, h0, r0⟩ := trodAll_cons hA
  obtain ⟨v1, vs1, d1, ds1, p1, q1, rfl, rfl, rfl, h1, r1⟩ := trodAll_cons r0
  obtain ⟨v2, vs2, d2, ds2, p2, q2, rfl, rfl, rfl, h2, r2⟩ := trodAll_cons r1
  obtain ⟨v3, vs3, d3, ds3, p3, q3, rfl, rfl, rfl, h3, r3⟩ := trodAll_cons r2
  obtain ⟨v4, vs4, d4, ds4, p4, q4, rfl, rfl, rfl, h4, r4⟩ := trodAll_cons r3
  obtain ⟨rfl, rfl, rfl⟩ := trodAll_nil r4
  obtain rfl : args = #[v0, v1, v2, v3, v4] := by cases args; simp_all
  obtain ⟨rfl, rfl⟩ := trodVars_none hV
  have k0 := h0
  have lt0 : ∀ x ∈ p0, x.block < W.heap.size := by obtain ⟨m, hm⟩ := k0; exact DataW.trod_lt m _ _ _ hm
  have z0 : ∀ n ∈ d0.weights Tryz.prog 26, n ≤ reachBytes := fun n hn => by have := List.all_eq_true.1 hsz n (DataW.weights_mem_each (j := 0) (t := 26) (d := d0) rfl rfl n hn); simpa using this
  obtain ⟨a0, vw0, vh0, vr0, rfl, w0⟩ := open_msn (hval 0 26 v0 rfl rfl) h0 z0
  have k1 := h1
  have lt1 : ∀ x ∈ p1, x.block < W.heap.size := by obtain ⟨m, hm⟩ := k1; exact DataW.trod_lt m _ _ _ hm
  have z1 : ∀ n ∈ d1.weights Tryz.prog 27, n ≤ reachBytes := fun n hn => by have := List.all_eq_true.1 hsz n (DataW.weights_mem_each (j := 1) (t := 27) (d := d1) rfl rfl n hn); simpa using this
  obtain ⟨a1, w1⟩ := open_ints_arg (hval 1 27 v1 rfl rfl) h1 z1
  obtain ⟨a2, rfl, rfl, rfl, w2⟩ := open_int Tryz.underlying5 (hval 2 5 v2 rfl rfl) h2
  obtain ⟨a3, rfl, rfl, rfl, w3⟩ := open_int Tryz.underlying3 (hval 3 3 v3 rfl rfl) h3
  obtain ⟨a4, rfl, rfl, rfl, w4⟩ := open_int Tryz.underlying3 (hval 4 3 v4 rfl rfl) h4
  clear hA0 hval0
  refine (walk W a0 vw0 vh0 vr0 v1 a1 a2 a3 a4 w0 w1 w2 w3 w4).mono fun e W' ⟨he, bel⟩ => ?_
  subst he
  exact ⟨_, rfl, _, _, _, [], _, [], hW', trodAll_mk1 (shut_bool Tryz.underlying4 _), (trodAll_cons_mk (Below.trod laidOut (by kernel_rfl) (of_decide_eq_true (by kernel_rfl)) k0 bel lt0) (trodAll_cons_mk (Below.trod laidOut (by kernel_rfl) (of_decide_eq_true (by kernel_rfl)) k1 bel lt1) (trodAll_cons_mk (shut_int Tryz.underlying5 w2) (trodAll_cons_mk (shut_int Tryz.underlying3 w3) (trodAll_cons_mk (shut_int Tryz.underlying3 w4) trodAll_mk0))))), rfl, bel.frame _, fun h => by cases h⟩

theorem over : Rows.trystSelfRow.holds Tryz.pinned (OpenSpec.ofChange Rows.trystSelfSpec) :=
  OpenClaim.holds_of_wide 8 Tryz.f8 rfl rfl rfl rfl rfl rfl rfl ⟨rfl, rfl, rfl, rfl, rfl⟩ rfl rfl rfl rfl rfl (by kernel_rfl) Tryz.func8 (by kernel_rfl)
    (of_decide_eq_true (by kernel_rfl)) (by unfold Func.isWrapper; first | (rw [if_pos (by decide +kernel)]; kernel_rfl) | (rw [if_neg (by decide +kernel)]; exact ⟨rfl, rfl⟩))
    (fun os started H enc _ => lifted os started H enc)

/-- the statement -/
theorem proved : Rows.TrystSelfSaid := over
#print axioms proved
end Go.Proofs.YtdpnhckbabjagaaGreat.trystSelf
