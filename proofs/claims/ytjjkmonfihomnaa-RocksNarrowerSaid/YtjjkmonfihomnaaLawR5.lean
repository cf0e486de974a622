/- For any corridor that is clear of rocks: so is one that lies within it; and it is clear of rocks that lie within these (up to 12 rocks and 150 corners). No condition. -/
import Derived.Test.YtjjkmonfihomnaaRocksOne
import Derived.Test.YtjjkmonfihomnaaRCorn
import Derived.Test.YtjjkmonfihomnaaOpen
namespace Go.Proofs.Ytjjkmonfihomnaa.rocksNarrower
open Go.ChangeShapes Go.WideShapes Go.ChangeAt Go.RowKit
set_option linter.unusedVariables false
theorem own : ownKnob Try.prog.godebug = none := by kernel_rfl
theorem laidOut : laidOutB Try.prog = true := by kernel_rfl
attribute [local irreducible] wpQuiet

set_option linter.unusedSimpArgs false in
set_option maxRecDepth 8000 in
set_option maxHeartbeats 2000000 in
theorem walk (w : World) (vc : Value) (c : List Pt) (vd : Value) (d : List Pt) (vp : Value) (p : List Pt) (vr : Value) (ls : List (List Pt)) (hc : PtsAt w.heap.size w vc c) (hd : PtsAt w.heap.size w vd d) (hp : PtsAt w.heap.size w vp p) (hr : RocksAt w.heap.size w vr ls) :
    Calls Try.prog 7 #[vc, vd, vp, vr] w fun e w' => e = .returned (.bool true) ∧ Below w.heap.size w w' := by
  have PC := Lib.hid hc
  have PD := Lib.hid hd
  have PP := Lib.hid hp
  have u1 := Lib.hid (fun w1 (B : Below w.heap.size w w1) => usable_any vc vr c ls w1 ((hc.below B).mono B.size) ((hr.below B).mono B.size))
  have f1 := Lib.hid (fun w1 (B : Below w.heap.size w w1) => first_any vc vr c ls w1 ((hc.below B).mono B.size) ((hr.below B).mono B.size))
  have f2 := Lib.hid (fun w1 (B : Below w.heap.size w w1) => first_any vd vr d ls w1 ((hd.below B).mono B.size) ((hr.below B).mono B.size))
  have r1 := Lib.hid (fun w1 (B : Below w.heap.size w w1) => rvalid_any vd d w1 ((hd.below B).mono B.size))
  have r2 := Lib.hid (fun w1 (B : Below w.heap.size w w1) => rvalid_any vp p w1 ((hp.below B).mono B.size))
  rw [← go_eq_ref] at r1 r2
  obtain ⟨ac, capc, rfl⟩ := hc.len
  obtain ⟨ad, capd, rfl⟩ := hd.len
  obtain ⟨ap, capp, rfl⟩ := hp.len
  obtain ⟨ar, capr, rfl, hrc⟩ := hr.2
  have HRC := Lib.hid hrc
  have hhd := Lib.hid (head33_any w)
  clear hc hd hp hr hrc
  go_enter Try.func7, Try.ntmps7
  go_wp2_with fail
  refine hhd.out.mono ?_
  rintro e w1 ⟨rfl, b1⟩
  have B1 := Lib.hid b1
  clear b1
  cases hv1 : usableB c ls
  · rw [hv1] at u1
    clear hv1
    go_wp2_with fail
    refine (u1.out _ B1.out).mono ?_
    rintro e w2 ⟨rfl, b2⟩
    have B2 := Lib.hid (B1.out.trans (b2.mono B1.out.size))
    clear b2
    go_wp2_with fail
    exact bodyPost_ret (results_tmp rfl _ _ _) rfl ⟨rfl, B2.out⟩
  rw [hv1] at u1
  obtain ⟨hl12, hs150, hgc, hgl⟩ := usableB_iff.1 hv1
  have hok : okRocks c ls = true := by rw [okRocks_eq, hgc, Bool.true_and, polysB_iff]; exact hgl
  have HGC := Lib.hid hgc
  have HGL := Lib.hid hgl
  have h100 : ls.length ≤ 100 := by omega
  clear hv1 hs150
  go_wp2_with fail
  refine (u1.out _ B1.out).mono ?_
  rintro e w2 ⟨rfl, b2⟩
  have B2 := Lib.hid (B1.out.trans (b2.mono B1.out.size))
  clear b2
  cases hv2 : goValid d
  · rw [hv2] at r1
    clear hv2 hok hgc hgl
    go_wp2_with fail
    refine (r1.out _ B2.out).mono ?_
    rintro e w3 ⟨rfl, b3⟩
    have B3 := Lib.hid (B2.out.trans (b3.mono B2.out.size))
    clear b3
    go_wp2_with fail
    exact bodyPost_ret (results_tmp rfl _ _ _) rfl ⟨rfl, B3.out⟩
  have HGD := Lib.hid hv2
  rw [hv2] at r1
  clear hv2
  have hokd : okRocks d ls = true := by rw [okRocks_eq, HGD.out, Bool.true_and, polysB_iff]; exact hgl
  obtain ⟨e1, e2, e3⟩ := fir_ok h100 hok
  obtain ⟨e4, e5, e6⟩ := fir_ok h100 hokd
  rw [e2, e3] at f1
  rw [e5, e6] at f2
  clear e1 e2 e3 e4 e5 e6 hok hokd hgc hgl
  generalize firI c ls = fi at *
  generalize firI d ls = fj at *
  go_wp2_with fail
  refine (r1.out _ B2.out).mono ?_
  rintro e w3 ⟨rfl, b3⟩
  have B3 := Lib.hid (B2.out.trans (b3.mono B2.out.size))
  clear b3
  cases hv3 : goValid p
  · rw [hv3] at r2
    clear hv3
    go_wp2_with fail
    refine (r2.out _ B3.out).mono ?_
    rintro e w4 ⟨rfl, b4⟩
    have B4 := Lib.hid (B3.out.trans (b4.mono B3.out.size))
    clear b4
    go_wp2_with fail
    exact bodyPost_ret (results_tmp rfl _ _ _) rfl ⟨rfl, B4.out⟩
  have HGP := Lib.hid hv3
  rw [hv3] at r2
  clear hv3
  go_wp2_with fail
  refine (r2.out _ B3.out).mono ?_
  rintro e w4 ⟨rfl, b4⟩
  have B4 := Lib.hid (B3.out.trans (b4.mono B3.out.size))
  clear b4
  go_wp2_with fail
  refine (f1.out _ B4.out).mono ?_
  rintro e w5 ⟨rfl, b5⟩
  have B5 := Lib.hid (B4.out.trans (b5.mono B4.out.size))
  clear b5
  cases hh : hitTo c ls ls.length with
  | some q =>
    simp only [Option.isSome_some]
    clear hh
    go_wp2
    go_loopw [9, 71] (fun u i wr => ∃ k : Nat, k ≤ ls.length ∧ i = .int .i64 (k : Int) ∧ u = .bool true ∧ Below w.heap.size w wr) (fun _ i _ => ls.length - (intOf i).toNat)
    case atStart => exact ⟨0, by omega, rfl, rfl, B5.out⟩
    case round =>
      obtain ⟨k, hk, rfl, rfl, hB⟩ := hrel
      by_cases hlt : k < ls.length
      · have dk : decide ((k : Int) < (ls.length : Int)) = true := by simp; omega
        obtain ⟨b', o', rfl, hb, hcc⟩ := HRC.out.resolve_left (by intro h; rw [h] at hlt; simp at hlt)
        obtain ⟨u, hu, hpu⟩ := hcc k hlt
        have e0 := (hB.cell (p := ⟨b', o' + k, none⟩) hb).trans hu
        have kl : (k : Int) < ls.length := by omega
        have k0 : (0 : Int) ≤ k := by omega
        have HB := Lib.hid hB
        clear hcc hu hpu hB
        go_wp2
        go_roundw
        case rel => exact ⟨k + 1, by omega, by go_num, rfl, HB.out⟩
        case measure => simp [intOf]; omega
      · obtain rfl : k = ls.length := by omega
        have dk : decide ((ls.length : Int) < (ls.length : Int)) = false := by simp
        have HB := Lib.hid hB
        clear hB
        go_wp2
        exact bodyPost_ret (results_tmp rfl _ _ _) rfl ⟨rfl, HB.out⟩
  | none =>
    have HCL := Lib.hid (hitTo_none hh)
    simp only [Option.isSome_none]
    clear hh
    -- the narrower corridor
    have hli := Lib.hid (lies_any _ _ d c w5 ((PD.out.below B5.out).mono B5.out.size) ((PC.out.below B5.out).mono B5.out.size) HGD.out HGC.out)
    have HLP : Hid (∀ k, k < ls.length → ∀ wr u, Below w.heap.size w wr → PtsAt w.heap.size w u (rk ls k) →
        Calls Try.prog 23 #[.slice ap p.length (p.length + capp), u] wr fun e w' => e = .returned (.bool (liesB p (rk ls k))) ∧ Below wr.heap.size wr w') := fun k hk wr u B hu =>
      lies_any _ u p (rk ls k) wr ((PP.out.below B).mono B.size) ((hu.below B).mono B.size) HGP.out (HGL.out k hk)
    have one : Hid (∀ k, k < ls.length → liesB p (rk ls k) = true → ∀ wr, Below w.heap.size w wr →
        Calls Try.prog 15 #[.slice ac c.length (c.length + capc), .slice (some ⟨wr.heap.size, 0, none⟩) 1 1] (wr.alloc (.cells #[.slice ap p.length (p.length + capp)] 22)) fun e w' => e = .returned (.tuple #[.int .i64 (firI c [p]), .bool false, .int .i64 0]) ∧ Below (wr.heap.size + 1) (wr.alloc (.cells #[.slice ap p.length (p.length + capp)] 22)) w') := fun k hk hlies wr B => by
      have hf : touchB c p = false := touch_within HGC.out HGP.out (HGL.out k hk) (lies_inside hlies) (HCL.out k hk)
      obtain ⟨g1, g2⟩ := first_one HGC.out HGP.out
      have A := (Below.refl wr.heap.size wr).alloc (Nat.le_refl _) (.cells #[.slice ap p.length (p.length + capp)] 22)
      have B' := B.trans (A.mono B.size)
      have := first_any _ _ c [p] _ ((PC.out.below B').mono B'.size) (RocksAt.has (ls := [p]) (cap := 0) (Has.new wr #[.slice ap p.length (p.length + capp)] 22) (by simp) (fun j hj => by
        match j, hj with
        | 0, _ => exact ⟨_, rfl, (PP.out.below B').mono B'.size⟩))
      rw [g1, g2, hf, World.size_alloc] at this
      exact this
    have fjd : Hid (liesB d c = true → (hitTo d ls ls.length).isSome = false) := fun h => by
      rw [hitTo_clear fun j hj => by
        rw [touchB_symm (HGL.out j hj) HGD.out]
        exact touch_within (HGL.out j hj) HGD.out HGC.out (lies_inside h) (by rw [touchB_symm HGC.out (HGL.out j hj)]; exact HCL.out j hj)]
      rfl
    generalize firI c [p] = fk at *
    cases hld : liesB d c
    · rw [hld] at hli
      clear hld fjd f2
      go_wp2_with fail
      refine hli.out.mono ?_
      rintro e w6 ⟨rfl, b6⟩
      have B6 := Lib.hid (B5.out.trans (b6.mono B5.out.size))
      clear b6
      go_wp2
      go_loopw [9, 71] (fun u i wr => ∃ k : Nat, k ≤ ls.length ∧ i = .int .i64 (k : Int) ∧ u = .bool true ∧ Below w.heap.size w wr) (fun _ i _ => ls.length - (intOf i).toNat)
      case atStart => exact ⟨0, by omega, rfl, rfl, B6.out⟩
      case round =>
        obtain ⟨k, hk, rfl, rfl, hB⟩ := hrel
        by_cases hlt : k < ls.length
        · have dk : decide ((k : Int) < (ls.length : Int)) = true := by simp; omega
          obtain ⟨b', o', rfl, hb, hcc⟩ := HRC.out.resolve_left (by intro h; rw [h] at hlt; simp at hlt)
          obtain ⟨u, hu, hpu⟩ := hcc k hlt
          have e0 := (hB.cell (p := ⟨b', o' + k, none⟩) hb).trans hu
          have kl : (k : Int) < ls.length := by omega
          have k0 : (0 : Int) ≤ k := by omega
          have hv := Lib.hid (HLP.out k hlt wr u hB hpu)
          have on1 := Lib.hid (one.out k hlt)
          have HB := Lib.hid hB
          clear hcc hu hpu hB
          cases hlp : liesB p (rk ls k)
          · rw [hlp] at hv
            clear hlp on1
            go_wp2_with fail
            refine hv.out.mono ?_
            rintro e w7 ⟨rfl, b7⟩
            have B7 := Lib.hid (HB.out.trans (b7.mono HB.out.size))
            clear b7
            go_wp2
            go_roundw
            case rel => exact ⟨k + 1, by omega, by go_num, rfl, B7.out⟩
            case measure => simp [intOf]; omega
          · rw [hlp] at hv
            have on2 := Lib.hid (on1.out hlp)
            clear hlp on1
            go_wp2_with fail
            refine hv.out.mono ?_
            rintro e w7 ⟨rfl, b7⟩
            have B7 := Lib.hid (HB.out.trans (b7.mono HB.out.size))
            have on3 := Lib.hid (on2.out w7 B7.out)
            clear b7 on2
            go_wp2_with fail
            refine on3.out.mono ?_
            rintro e w8 ⟨rfl, b8⟩
            have B8 := Lib.hid ((B7.out.alloc B7.out.size (.cells #[.slice ap p.length (p.length + capp)] 22)).trans (b8.mono (by have := B7.out.size; omega)))
            clear b8 on3
            go_wp2
            go_roundw
            case rel => exact ⟨k + 1, by omega, by go_num, rfl, B8.out⟩
            case measure => simp [intOf]; omega
        · obtain rfl : k = ls.length := by omega
          have dk : decide ((ls.length : Int) < (ls.length : Int)) = false := by simp
          have HB := Lib.hid hB
          clear hB
          go_wp2
          exact bodyPost_ret (results_tmp rfl _ _ _) rfl ⟨rfl, HB.out⟩
    · rw [hld] at hli
      rw [fjd.out hld] at f2
      clear hld fjd
      go_wp2_with fail
      refine hli.out.mono ?_
      rintro e w6 ⟨rfl, b6⟩
      have B6 := Lib.hid (B5.out.trans (b6.mono B5.out.size))
      clear b6
      go_wp2_with fail
      refine (f2.out _ B6.out).mono ?_
      rintro e w6' ⟨rfl, b6⟩
      have B6' := Lib.hid (B6.out.trans (b6.mono B6.out.size))
      clear b6
      go_wp2
      go_loopw [9, 71] (fun u i wr => ∃ k : Nat, k ≤ ls.length ∧ i = .int .i64 (k : Int) ∧ u = .bool true ∧ Below w.heap.size w wr) (fun _ i _ => ls.length - (intOf i).toNat)
      case atStart => exact ⟨0, by omega, rfl, rfl, B6'.out⟩
      case round =>
        obtain ⟨k, hk, rfl, rfl, hB⟩ := hrel
        by_cases hlt : k < ls.length
        · have dk : decide ((k : Int) < (ls.length : Int)) = true := by simp; omega
          obtain ⟨b', o', rfl, hb, hcc⟩ := HRC.out.resolve_left (by intro h; rw [h] at hlt; simp at hlt)
          obtain ⟨u, hu, hpu⟩ := hcc k hlt
          have e0 := (hB.cell (p := ⟨b', o' + k, none⟩) hb).trans hu
          have kl : (k : Int) < ls.length := by omega
          have k0 : (0 : Int) ≤ k := by omega
          have hv := Lib.hid (HLP.out k hlt wr u hB hpu)
          have on1 := Lib.hid (one.out k hlt)
          have HB := Lib.hid hB
          clear hcc hu hpu hB
          cases hlp : liesB p (rk ls k)
          · rw [hlp] at hv
            clear hlp on1
            go_wp2_with fail
            refine hv.out.mono ?_
            rintro e w7 ⟨rfl, b7⟩
            have B7 := Lib.hid (HB.out.trans (b7.mono HB.out.size))
            clear b7
            go_wp2
            go_roundw
            case rel => exact ⟨k + 1, by omega, by go_num, rfl, B7.out⟩
            case measure => simp [intOf]; omega
          · rw [hlp] at hv
            have on2 := Lib.hid (on1.out hlp)
            clear hlp on1
            go_wp2_with fail
            refine hv.out.mono ?_
            rintro e w7 ⟨rfl, b7⟩
            have B7 := Lib.hid (HB.out.trans (b7.mono HB.out.size))
            have on3 := Lib.hid (on2.out w7 B7.out)
            clear b7 on2
            go_wp2_with fail
            refine on3.out.mono ?_
            rintro e w8 ⟨rfl, b8⟩
            have B8 := Lib.hid ((B7.out.alloc B7.out.size (.cells #[.slice ap p.length (p.length + capp)] 22)).trans (b8.mono (by have := B7.out.size; omega)))
            clear b8 on3
            go_wp2
            go_roundw
            case rel => exact ⟨k + 1, by omega, by go_num, rfl, B8.out⟩
            case measure => simp [intOf]; omega
        · obtain rfl : k = ls.length := by omega
          have dk : decide ((ls.length : Int) < (ls.length : Int)) = false := by simp
          have HB := Lib.hid hB
          clear hB
          go_wp2
          exact bodyPost_ret (results_tmp rfl _ _ _) rfl ⟨rfl, HB.out⟩

set_option maxRecDepth 100000 in
theorem lifted (os : Os) (started : os.Started) (H : Type) (enc : TypeId × Value → H) :
    ReturnsInHanded {} Try.checked os 7 .any (Rows.rocksNarrowerSpec.pre6 enc Try.prog Try.f7 Rows.rocksNarrowerRow.domain false) (Rows.rocksNarrowerSpec.post enc Try.prog Try.f7 false true false false) := by
  refine returnsInHanded_of_change_sized (C := Try.checked) own started (by kernel_rfl) Try.func7
    (ChangeSpec.witness6 (enc := enc) (C := Try.checked) false ⟨#[], #[.slice none 0 0, .slice none 0 0, .slice none 0 0, .slice none 0 0], []⟩ 8 (by kernel_rfl) (by kernel_rfl) (by kernel_rfl) (by kernel_rfl)) ?_
  intro W base args ds gs before hval0 hW hcnd hsz0 _
  have hval : ∀ (j : Nat) t v, Try.f7.params[j]? = some t → args[j]? = some v → Value.okWide Try.prog W .any base t v := hval0
  have hW' := hW
  obtain ⟨p, q, hA0, hV, rfl, hfz, hnd⟩ := hW
  have hA : DataW.TrodAll enc Try.prog W 0 (fun _ => true) true Try.f7.params.toList args.toList ds p := hA0
  have hsz : (DataW.weightsEach Try.prog (Try.f7.params.toList ++ Rows.rocksNarrowerSpec.plain.varTypes Try.prog) (ds ++ gs)).all (· ≤ reachBytes) = true := hsz0
  rw [Try.params7] at hA hval hsz
  obtain ⟨v0, vs0, d0, ds0, p0, q0, hargs, rfl, rfl, h0, r0⟩ := trodAll_cons hA
  obtain ⟨v1, vs1, d1, ds1, p1, q1, rfl, rfl, rfl, h1, r1⟩ := trodAll_cons r0
  obtain ⟨v2, vs2, d2, ds2, p2, q2, rfl, rfl, rfl, h2, r2⟩ := trodAll_cons r1
  obtain ⟨v3, vs3, d3, ds3, p3, q3, rfl, rfl, rfl, h3, r3⟩ := trodAll_cons r2
  obtain ⟨rfl, rfl, rfl⟩ := trodAll_nil r3
  obtain rfl : args = #[v0, v1, v2, v3] := by cases args; simp_all
  obtain ⟨rfl, rfl⟩ := trodVars_none hV
  have k0 := h0
  have lt0 : ∀ x ∈ p0, x.block < W.heap.size := by obtain ⟨m, hm⟩ := k0; exact DataW.trod_lt m _ _ _ hm
  have z0 : ∀ n ∈ d0.weights Try.prog 22, n ≤ reachBytes := fun n hn => by have := List.all_eq_true.1 hsz n (DataW.weights_mem_each (j := 0) (t := 22) (d := d0) rfl rfl n hn); simpa using this
  obtain ⟨a0, w0⟩ := open_pts_arg (hval 0 22 v0 rfl rfl) h0 z0
  have k1 := h1
  have lt1 : ∀ x ∈ p1, x.block < W.heap.size := by obtain ⟨m, hm⟩ := k1; exact DataW.trod_lt m _ _ _ hm
  have z1 : ∀ n ∈ d1.weights Try.prog 22, n ≤ reachBytes := fun n hn => by have := List.all_eq_true.1 hsz n (DataW.weights_mem_each (j := 1) (t := 22) (d := d1) rfl rfl n hn); simpa using this
  obtain ⟨a1, w1⟩ := open_pts_arg (hval 1 22 v1 rfl rfl) h1 z1
  have k2 := h2
  have lt2 : ∀ x ∈ p2, x.block < W.heap.size := by obtain ⟨m, hm⟩ := k2; exact DataW.trod_lt m _ _ _ hm
  have z2 : ∀ n ∈ d2.weights Try.prog 22, n ≤ reachBytes := fun n hn => by have := List.all_eq_true.1 hsz n (DataW.weights_mem_each (j := 2) (t := 22) (d := d2) rfl rfl n hn); simpa using this
  obtain ⟨a2, w2⟩ := open_pts_arg (hval 2 22 v2 rfl rfl) h2 z2
  have k3 := h3
  have lt3 : ∀ x ∈ p3, x.block < W.heap.size := by obtain ⟨m, hm⟩ := k3; exact DataW.trod_lt m _ _ _ hm
  have z3 : ∀ n ∈ d3.weights Try.prog 23, n ≤ reachBytes := fun n hn => by have := List.all_eq_true.1 hsz n (DataW.weights_mem_each (j := 3) (t := 23) (d := d3) rfl rfl n hn); simpa using this
  obtain ⟨a3, w3⟩ := open_rocks_arg (hval 3 23 v3 rfl rfl) h3 z3
  clear hA0 hval0
  refine (walk W v0 a0 v1 a1 v2 a2 v3 a3 w0 w1 w2 w3).mono fun e W' ⟨he, bel⟩ => ?_
  subst he
  exact ⟨_, rfl, _, _, _, [], _, [], hW', trodAll_mk1 (shut_bool Try.underlying4 _), (trodAll_cons_mk (Below.trod laidOut (by kernel_rfl) (of_decide_eq_true (by kernel_rfl)) k0 bel lt0) (trodAll_cons_mk (Below.trod laidOut (by kernel_rfl) (of_decide_eq_true (by kernel_rfl)) k1 bel lt1) (trodAll_cons_mk (Below.trod laidOut (by kernel_rfl) (of_decide_eq_true (by kernel_rfl)) k2 bel lt2) (trodAll_cons_mk (Below.trod laidOut (by kernel_rfl) (of_decide_eq_true (by kernel_rfl)) k3 bel lt3) trodAll_mk0)))), rfl, bel.frame _, fun h => by cases h⟩

theorem over : Rows.rocksNarrowerRow.holds Try.pinned (OpenSpec.ofChange Rows.rocksNarrowerSpec) :=
  OpenClaim.holds_of_wide 7 Try.f7 rfl rfl rfl rfl rfl rfl rfl ⟨rfl, rfl, rfl, rfl, rfl⟩ rfl rfl rfl rfl rfl (by kernel_rfl) Try.func7 (by kernel_rfl)
    (of_decide_eq_true (by kernel_rfl)) (by unfold Func.isWrapper; first | (rw [if_pos (by decide +kernel)]; kernel_rfl) | (rw [if_neg (by decide +kernel)]; exact ⟨rfl, rfl⟩))
    (fun os started H enc _ => lifted os started H enc)

/-- the statement -/
theorem proved : Rows.RocksNarrowerSaid := over
#print axioms proved
end Go.Proofs.Ytjjkmonfihomnaa.rocksNarrower
