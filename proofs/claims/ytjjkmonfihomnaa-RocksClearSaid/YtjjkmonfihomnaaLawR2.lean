/- For any corridor, rocks and place: if the corridor is clear of all rocks, and has the place, no rock has it (up to 12 rocks and 150 corners). No condition. -/
import Derived.Test.YtjjkmonfihomnaaRocksOne
import Derived.Test.YtjjkmonfihomnaaTouchB
import Derived.Test.YtjjkmonfihomnaaOpen
namespace Go.Proofs.Ytjjkmonfihomnaa.rocksClear
open Go.ChangeShapes Go.WideShapes Go.ChangeAt Go.RowKit
set_option linter.unusedVariables false
theorem own : ownKnob Try.prog.godebug = none := by kernel_rfl
theorem laidOut : laidOutB Try.prog = true := by kernel_rfl
attribute [local irreducible] wpQuiet

set_option linter.unusedSimpArgs false in
set_option maxRecDepth 8000 in
set_option maxHeartbeats 2000000 in
theorem walk (w : World) (vc : Value) (c : List Pt) (vr : Value) (ls : List (List Pt)) (px py : Int) (hc : PtsAt w.heap.size w vc c) (hr : RocksAt w.heap.size w vr ls) :
    Calls Try.prog 4 #[vc, vr, .agg #[.int .i64 px, .int .i64 py]] w fun e w' => e = .returned (.bool true) ∧ Below w.heap.size w w' := by
  have PC := Lib.hid hc
  have u1 := Lib.hid (fun w1 (B : Below w.heap.size w w1) => usable_any vc vr c ls w1 ((hc.below B).mono B.size) ((hr.below B).mono B.size))
  have f1 := Lib.hid (fun w1 (B : Below w.heap.size w w1) => first_any vc vr c ls w1 ((hc.below B).mono B.size) ((hr.below B).mono B.size))
  have q1 := Lib.hid (fun w1 (B : Below w.heap.size w w1) => has_any vc c ⟨px, py⟩ w1 ((hc.below B).mono B.size))
  obtain ⟨ac, capc, rfl⟩ := hc.len
  obtain ⟨ar, capr, rfl, hrc⟩ := hr.2
  have HRC := Lib.hid hrc
  have hA := (Below.refl w.heap.size w).alloc (Nat.le_refl _) (.cells #[.int .i64 px, .int .i64 py] 31)
  have hN := Has.new w #[.int .i64 px, .int .i64 py] 31
  have hd := Lib.hid (head33_any (w.alloc (.cells #[.int .i64 px, .int .i64 py] 31)))
  clear hc hr hrc
  go_enter Try.func4, Try.ntmps4
  have HA := Lib.hid hA
  have HN := Lib.hid hN
  have hs0 : w.heap.size < (w.alloc (.cells #[.int .i64 px, .int .i64 py] 31)).heap.size := by simp
  clear hA hN
  go_wp2_with fail
  refine hd.out.mono ?_
  rintro e w1 ⟨rfl, b1⟩
  have B1 := Lib.hid (HA.out.trans (b1.mono HA.out.size))
  have N1 := Lib.hid (HN.out.below b1 hs0)
  have hs1 := N1.out.lt
  clear b1 hs0
  cases hv1 : usableB c ls
  · rw [hv1] at u1
    clear hv1
    go_wp2_with fail
    refine (u1.out _ B1.out).mono ?_
    rintro e w2 ⟨rfl, b2⟩
    have B2 := Lib.hid (B1.out.trans (b2.mono B1.out.size))
    clear b2
    go_wp2_with fail
    exact bodyPost_ret (results_tmp rfl _ _ _) rfl ⟨rfl, B2.out⟩
  rw [hv1] at u1
  obtain ⟨hl12, hs150, hgc, hgl⟩ := usableB_iff.1 hv1
  have hok : okRocks c ls = true := by rw [okRocks_eq, hgc, Bool.true_and, polysB_iff]; exact hgl
  have HGC := Lib.hid hgc
  have HGL := Lib.hid hgl
  have h100 : ls.length ≤ 100 := by omega
  clear hv1 hs150 hgl
  go_wp2_with fail
  refine (u1.out _ B1.out).mono ?_
  rintro e w2 ⟨rfl, b2⟩
  have B2 := Lib.hid (B1.out.trans (b2.mono B1.out.size))
  have N2 := Lib.hid (N1.out.below b2 hs1)
  have hs2 := N2.out.lt
  clear b2
  have pl := rplace_any px py w2
  have x0 := N2.out.cell (i := 0) rfl
  have x1 := N2.out.cell (i := 1) rfl
  cases hpl : placeB px py
  · rw [hpl] at pl
    have pl' := Lib.hid pl
    clear pl hpl hok hgc
    go_wp2_with fail
    refine pl'.out.mono ?_
    rintro e w3 ⟨rfl, b3⟩
    have B3 := Lib.hid (B2.out.trans (b3.mono B2.out.size))
    clear b3
    go_wp2_with fail
    exact bodyPost_ret (results_tmp rfl _ _ _) rfl ⟨rfl, B3.out⟩
  rw [hpl] at pl
  have pl' := Lib.hid pl
  have HPL := Lib.hid hpl
  have hE : hasE c ⟨px, py⟩ = 0 := by unfold hasE; rw [hgc, show placeP ⟨px, py⟩ = true from hpl]; rfl
  obtain ⟨e1, e2, e3⟩ := fir_ok h100 hok
  rw [e2, e3] at f1
  rw [hE] at q1
  generalize firI c ls = fi at *
  clear e1 e2 e3 hok hgc pl hpl hE
  go_wp2_with fail
  refine pl'.out.mono ?_
  rintro e w3 ⟨rfl, b3⟩
  have B2' := B2.out.trans (b3.mono B2.out.size)
  have N2' := N2.out.below b3 hs2
  clear B2 N2 hs2 b3 x0 x1
  have B2 := Lib.hid B2'
  have N2 := Lib.hid N2'
  have hs2 := N2'.lt
  clear B2' N2'
  generalize w3 = w2' at *
  have x0 := N2.out.cell (i := 0) rfl
  have x1 := N2.out.cell (i := 1) rfl
  go_wp2_with fail
  refine (f1.out _ B2.out).mono ?_
  rintro e w3 ⟨rfl, b3⟩
  have B3 := Lib.hid (B2.out.trans (b3.mono B2.out.size))
  have N3 := Lib.hid (N2.out.below b3 hs2)
  have hs3 := N3.out.lt
  clear b3 x0 x1
  have x0 := N3.out.cell (i := 0) rfl
  have x1 := N3.out.cell (i := 1) rfl
  go_wp2_with fail
  refine (q1.out _ B3.out).mono ?_
  rintro e w4 ⟨rfl, b4⟩
  have B4 := Lib.hid (B3.out.trans (b4.mono B3.out.size))
  have N4 := Lib.hid (N3.out.below b4 hs3)
  have hs4 := N4.out.lt
  have hz4 := B4.out.size
  clear b4 x0 x1
  obtain ⟨tb, htb⟩ : ∃ tb, (hitTo c ls ls.length).isSome = tb := ⟨_, rfl⟩
  obtain ⟨ib, hib⟩ : ∃ ib, hasB c ⟨px, py⟩ = ib := ⟨_, rfl⟩
  rw [htb, hib]
  have key : Hid (tb = false → ib = true → ∀ k, k < ls.length → hasB (rk ls k) ⟨px, py⟩ = false) := fun h1 h2 k hk => by
    have hn : hitTo c ls ls.length = none := by
      cases h : hitTo c ls ls.length with
      | none => rfl
      | some q => rw [h] at htb; rw [← htb] at h1; cases h1
    exact clear_has HGC.out (HGL.out k hk) (hitTo_none hn k hk) (by rw [hib, h2])
  clear htb hib
  go_wp2
  go_loopw [7, 49] (fun u i wr => ∃ k : Nat, k ≤ ls.length ∧ i = .int .i64 (k : Int) ∧ u = .bool true ∧ Below w4.heap.size w4 wr) (fun _ i _ => ls.length - (intOf i).toNat)
  case atStart => exact ⟨0, by omega, rfl, rfl, Below.refl _ _⟩
  case round =>
    obtain ⟨k, hk, rfl, rfl, hB'⟩ := hrel
    have hB := B4.out.trans (hB'.mono hz4)
    have N5 := N4.out.below hB' hs4
    by_cases hlt : k < ls.length
    · have dk : decide ((k : Int) < (ls.length : Int)) = true := by simp; omega
      obtain ⟨b', o', rfl, hb, hcc⟩ := HRC.out.resolve_left (by intro h; rw [h] at hlt; simp at hlt)
      obtain ⟨u, hu, hpu⟩ := hcc k hlt
      have e0 := (hB.cell (p := ⟨b', o' + k, none⟩) hb).trans hu
      have x0 := N5.cell (i := 0) rfl
      have x1 := N5.cell (i := 1) rfl
      have hv := has_any u (rk ls k) ⟨px, py⟩ wr ((hpu.below hB).mono hB.size)
      have hE : hasE (rk ls k) ⟨px, py⟩ = 0 := by unfold hasE; rw [HGL.out k hlt, show placeP ⟨px, py⟩ = true from HPL.out]; rfl
      rw [hE] at hv
      obtain ⟨rb, hrb⟩ : ∃ rb, hasB (rk ls k) ⟨px, py⟩ = rb := ⟨_, rfl⟩
      rw [hrb] at hv
      have hv' := Lib.hid hv
      have hkey : (tb || (!ib || !rb)) = true := by
        cases tb
        · cases ib
          · rfl
          · rw [← hrb, key.out rfl rfl k hlt]; rfl
        · rfl
      have kl : (k : Int) < ls.length := by omega
      have k0 : (0 : Int) ≤ k := by omega
      have hzr := hB'.size
      have HB := Lib.hid hB'
      clear hcc hu hpu hB hB' hv hE hrb N5
      go_wp2_with fail
      refine hv'.out.mono ?_
      rintro e w9 ⟨rfl, hb9⟩
      have B9 := Lib.hid (HB.out.trans (hb9.mono hzr))
      clear hb9
      cases tb
      · cases ib
        · go_wp2
          go_roundw
          case rel => exact ⟨k + 1, by omega, by go_num, rfl, B9.out⟩
          case measure => simp [intOf]; omega
        · obtain rfl : rb = false := by simpa using hkey
          go_wp2
          go_roundw
          case rel => exact ⟨k + 1, by omega, by go_num, rfl, B9.out⟩
          case measure => simp [intOf]; omega
      · go_wp2
        go_roundw
        case rel => exact ⟨k + 1, by omega, by go_num, rfl, B9.out⟩
        case measure => simp [intOf]; omega
    · obtain rfl : k = ls.length := by omega
      have dk : decide ((ls.length : Int) < (ls.length : Int)) = false := by simp
      have HB := Lib.hid hB
      clear hB hB' N5
      go_wp2
      exact bodyPost_ret (results_tmp rfl _ _ _) rfl ⟨rfl, HB.out⟩

set_option maxRecDepth 100000 in
theorem lifted (os : Os) (started : os.Started) (H : Type) (enc : TypeId × Value → H) :
    ReturnsInHanded {} Try.checked os 4 .any (Rows.rocksClearSpec.pre6 enc Try.prog Try.f4 Rows.rocksClearRow.domain false) (Rows.rocksClearSpec.post enc Try.prog Try.f4 false true false false) := by
  refine returnsInHanded_of_change_sized (C := Try.checked) own started (by kernel_rfl) Try.func4
    (ChangeSpec.witness6 (enc := enc) (C := Try.checked) false ⟨#[], #[.slice none 0 0, .slice none 0 0, .agg #[.int .i64 0, .int .i64 0]], []⟩ 8 (by kernel_rfl) (by kernel_rfl) (by kernel_rfl) (by kernel_rfl)) ?_
  intro W base args ds gs before hval0 hW hcnd hsz0 _
  have hval : ∀ (j : Nat) t v, Try.f4.params[j]? = some t → args[j]? = some v → Value.okWide Try.prog W .any base t v := hval0
  have hW' := hW
  obtain ⟨p, q, hA0, hV, rfl, hfz, hnd⟩ := hW
  have hA : DataW.TrodAll enc Try.prog W 0 (fun _ => true) true Try.f4.params.toList args.toList ds p := hA0
  have hsz : (DataW.weightsEach Try.prog (Try.f4.params.toList ++ Rows.rocksClearSpec.plain.varTypes Try.prog) (ds ++ gs)).all (· ≤ reachBytes) = true := hsz0
  rw [Try.params4] at hA hval hsz
  obtain ⟨v0, vs0, d0, ds0, p0, q0, hargs, rfl, rfl, h0, r0⟩ := trodAll_cons hA
  obtain ⟨v1, vs1, d1, ds1, p1, q1, rfl, rfl, rfl, h1, r1⟩ := trodAll_cons r0
  obtain ⟨v2, vs2, d2, ds2, p2, q2, rfl, rfl, rfl, h2, r2⟩ := trodAll_cons r1
  obtain ⟨rfl, rfl, rfl⟩ := trodAll_nil r2
  obtain rfl : args = #[v0, v1, v2] := by cases args; simp_all
  obtain ⟨rfl, rfl⟩ := trodVars_none hV
  have k0 := h0
  have lt0 : ∀ x ∈ p0, x.block < W.heap.size := by obtain ⟨m, hm⟩ := k0; exact DataW.trod_lt m _ _ _ hm
  have z0 : ∀ n ∈ d0.weights Try.prog 22, n ≤ reachBytes := fun n hn => by have := List.all_eq_true.1 hsz n (DataW.weights_mem_each (j := 0) (t := 22) (d := d0) rfl rfl n hn); simpa using this
  obtain ⟨a0, w0⟩ := open_pts_arg (hval 0 22 v0 rfl rfl) h0 z0
  have k1 := h1
  have lt1 : ∀ x ∈ p1, x.block < W.heap.size := by obtain ⟨m, hm⟩ := k1; exact DataW.trod_lt m _ _ _ hm
  have z1 : ∀ n ∈ d1.weights Try.prog 23, n ≤ reachBytes := fun n hn => by have := List.all_eq_true.1 hsz n (DataW.weights_mem_each (j := 1) (t := 23) (d := d1) rfl rfl n hn); simpa using this
  obtain ⟨a1, w1⟩ := open_rocks_arg (hval 1 23 v1 rfl rfl) h1 z1
  have k2 := h2
  have lt2 : ∀ x ∈ p2, x.block < W.heap.size := by obtain ⟨m, hm⟩ := k2; exact DataW.trod_lt m _ _ _ hm
  obtain ⟨a2, b2, rfl⟩ := open_point (hval 2 31 v2 rfl rfl) h2
  clear hA0 hval0
  refine (walk W v0 a0 v1 a1 a2 b2 w0 w1).mono fun e W' ⟨he, bel⟩ => ?_
  subst he
  exact ⟨_, rfl, _, _, _, [], _, [], hW', trodAll_mk1 (shut_bool Try.underlying4 _), (trodAll_cons_mk (Below.trod laidOut (by kernel_rfl) (of_decide_eq_true (by kernel_rfl)) k0 bel lt0) (trodAll_cons_mk (Below.trod laidOut (by kernel_rfl) (of_decide_eq_true (by kernel_rfl)) k1 bel lt1) (trodAll_cons_mk (Below.trod laidOut (by kernel_rfl) (of_decide_eq_true (by kernel_rfl)) k2 bel lt2) trodAll_mk0))), rfl, bel.frame _, fun h => by cases h⟩

theorem over : Rows.rocksClearRow.holds Try.pinned (OpenSpec.ofChange Rows.rocksClearSpec) :=
  OpenClaim.holds_of_wide 4 Try.f4 rfl rfl rfl rfl rfl rfl rfl ⟨rfl, rfl, rfl, rfl, rfl⟩ rfl rfl rfl rfl rfl (by kernel_rfl) Try.func4 (by kernel_rfl)
    (of_decide_eq_true (by kernel_rfl)) (by unfold Func.isWrapper; first | (rw [if_pos (by decide +kernel)]; kernel_rfl) | (rw [if_neg (by decide +kernel)]; exact ⟨rfl, rfl⟩))
    (fun os started H enc _ => lifted os started H enc)

/-- the statement -/
theorem proved : Rows.RocksClearSaid := over
#print axioms proved
end Go.Proofs.Ytjjkmonfihomnaa.rocksClear
