/- For any corridor and rocks: it is clear of all rocks before the one that is found, and not of this one; those behind it change nothing (up to 12 rocks and 150 corners). No condition. -/
import Derived.Test.YtjjkmonfihomnaaRocksOne
import Derived.Test.YtjjkmonfihomnaaOpen
namespace Go.Proofs.Ytjjkmonfihomnaa.rocksFirst
open Go.ChangeShapes Go.WideShapes Go.ChangeAt Go.RowKit
set_option linter.unusedVariables false
theorem own : ownKnob Try.prog.godebug = none := by kernel_rfl
theorem laidOut : laidOutB Try.prog = true := by kernel_rfl
attribute [local irreducible] wpQuiet

set_option linter.unusedSimpArgs false in
set_option maxRecDepth 8000 in
set_option maxHeartbeats 2000000 in
theorem walk (w : World) (vc : Value) (c : List Pt) (vr : Value) (ls : List (List Pt)) (hc : PtsAt w.heap.size w vc c) (hr : RocksAt w.heap.size w vr ls) :
    Calls Try.prog 5 #[vc, vr] w fun e w' => e = .returned (.bool true) ∧ Below w.heap.size w w' := by
  have PC := Lib.hid hc
  have u1 := Lib.hid (fun w1 (B : Below w.heap.size w w1) => usable_any vc vr c ls w1 ((hc.below B).mono B.size) ((hr.below B).mono B.size))
  have f1 := Lib.hid (fun w1 (B : Below w.heap.size w w1) => first_any vc vr c ls w1 ((hc.below B).mono B.size) ((hr.below B).mono B.size))
  obtain ⟨ac, capc, rfl⟩ := hc.len
  obtain ⟨ar, capr, rfl, hrc⟩ := hr.2
  have PR := Lib.hid hr
  have HRC := Lib.hid hrc
  have hd := Lib.hid (head33_any w)
  clear hc hr hrc
  go_enter Try.func5, Try.ntmps5
  go_wp2_with fail
  refine hd.out.mono ?_
  rintro e w1 ⟨rfl, b1⟩
  have B1 := Lib.hid b1
  clear b1
  cases hv1 : usableB c ls
  · rw [hv1] at u1
    clear hv1
    go_wp2_with fail
    refine (u1.out _ B1.out).mono ?_
    rintro e w2 ⟨rfl, b2⟩
    have B2 := Lib.hid (B1.out.trans (b2.mono B1.out.size))
    clear b2
    go_wp2_with fail
    exact bodyPost_ret (results_tmp rfl _ _ _) rfl ⟨rfl, B2.out⟩
  rw [hv1] at u1
  obtain ⟨hl12, hs150, hgc, hgl⟩ := usableB_iff.1 hv1
  have hok : okRocks c ls = true := by rw [okRocks_eq, hgc, Bool.true_and, polysB_iff]; exact hgl
  have HGC := Lib.hid hgc
  have HGL := Lib.hid hgl
  have HOK := Lib.hid hok
  have h100 : ls.length ≤ 100 := by omega
  clear hv1 hs150 hgc hgl
  go_wp2_with fail
  refine (u1.out _ B1.out).mono ?_
  rintro e w2 ⟨rfl, b2⟩
  have B2 := Lib.hid (B1.out.trans (b2.mono B1.out.size))
  clear b2
  obtain ⟨e1, e2, e3⟩ := fir_ok h100 hok
  rw [e1, e2, e3] at f1
  clear e1 e2 e3 hok
  cases hh : hitTo c ls ls.length with
  | none =>
    have HCL := Lib.hid (hitTo_none hh)
    rw [hh] at f1
    simp only [natO, Option.isSome_none] at f1
    clear hh
    by_cases hl0 : ls = []
    · subst hl0
      simp only [List.length_nil, Nat.zero_add] at f1 PR u1
      simp only [List.length_nil, Nat.zero_add]
      have g1 := f1
      go_wp2_with fail
      refine (f1.out _ B2.out).mono ?_
      rintro e w3 ⟨rfl, b3⟩
      have B3 := Lib.hid (B2.out.trans (b3.mono B2.out.size))
      clear b3 f1
      go_wp2_with fail
      refine (g1.out _ B3.out).mono ?_
      rintro e w8 ⟨rfl, b8⟩
      have B8 := Lib.hid (B3.out.trans (b8.mono B3.out.size))
      clear b8
      go_wp2
      go_loopw [5, 114] (fun u i wr => i = .int .i64 0 ∧ u = .bool true ∧ Below w.heap.size w wr) (fun _ _ _ => 0)
      case atStart => exact ⟨rfl, rfl, B8.out⟩
      case round =>
        obtain ⟨rfl, rfl, hB⟩ := hrel
        have HB := Lib.hid hB
        clear hB
        go_wp2
        exact bodyPost_ret (results_tmp rfl _ _ _) rfl ⟨rfl, HB.out⟩
    · have hlp : 0 < ls.length := List.length_pos_iff.2 hl0
      have d1 : decide ((0 : Int) ≥ (ls.length : Int)) = false := by simp; omega
      have d2 : decide ((ls.length : Int) ≤ 0) = false := by simp; omega
      have d3 : ¬ (ls.length : Int) ≤ 0 := by omega
      go_wp2_with fail
      refine (f1.out _ B2.out).mono ?_
      rintro e w3 ⟨rfl, b3⟩
      have B3 := Lib.hid (B2.out.trans (b3.mono B2.out.size))
      have g1 := f1
      clear b3 f1
      go_wp2_with fail
      refine (g1.out _ B3.out).mono ?_
      rintro e w8 ⟨rfl, b8⟩
      have B8 := Lib.hid (B3.out.trans (b8.mono B3.out.size))
      clear b8
      go_wp2
      go_loopw [5, 114] (fun u i wr => ∃ k : Nat, k ≤ ls.length ∧ i = .int .i64 (k : Int) ∧ u = .bool true ∧ Below w.heap.size w wr) (fun _ i _ => ls.length - (intOf i).toNat)
      case atStart => exact ⟨0, by omega, rfl, rfl, B8.out⟩
      case round =>
        obtain ⟨k, hk, rfl, rfl, hB⟩ := hrel
        by_cases hlt : k < ls.length
        · have dk : decide ((k : Int) < ((ls.length : Nat) : Int)) = true := by simp; omega
          obtain ⟨b', o', hab, hb, hcc⟩ := HRC.out.resolve_left (by intro h; rw [h] at hl12; simp_all)
          obtain ⟨u, hu, hpu⟩ := hcc k (by omega)
          subst hab
          have e0 := (hB.cell (p := ⟨b', o' + k, none⟩) hb).trans hu
          have hv := hit_any _ u c (rk ls k) wr ((PC.out.below hB).mono hB.size) ((hpu.below hB).mono hB.size)
          obtain ⟨x1, x2⟩ := hit_clear HGC.out (HGL.out k (by omega)) (HCL.out k (by omega))
          rw [x1, x2] at hv
          have hv' := Lib.hid hv
          have kl : (k : Int) < ((ls.length : Nat) : Int) := by omega
          have k0 : (0 : Int) ≤ k := by omega
          have hzr := hB.size
          have HB := Lib.hid hB
          clear hcc hu hpu hB hv x1 x2
          go_wp2_with fail
          refine hv'.out.mono ?_
          rintro e w9 ⟨rfl, hb9⟩
          have B9 := HB.out.trans (hb9.mono hzr)
          have B10 := Lib.hid (B9.alloc B9.size (.cells #[.int .i64 (hitX c (rk ls k)), .int .i64 (hitY c (rk ls k))] 31))
          clear hb9 B9
          go_wp2
          go_roundw
          case rel => exact ⟨k + 1, by omega, by go_num, rfl, B10.out⟩
          case measure => simp [intOf]; omega
        · obtain rfl : k = ls.length := by omega
          have dk : decide (((ls.length : Nat) : Int) < ((ls.length : Nat) : Int)) = false := by simp
          have HB := Lib.hid hB
          clear hB
          go_wp2
          exact bodyPost_ret (results_tmp rfl _ _ _) rfl ⟨rfl, HB.out⟩
  | some i =>
    obtain ⟨hi, ht, hbef⟩ := hitTo_some hh
    have HH := Lib.hid hh
    have HT := Lib.hid ht
    have HCL := Lib.hid hbef
    rw [hh] at f1
    simp only [natO, Option.isSome_some] at f1
    clear hh ht hbef
    obtain ⟨b, o, rfl⟩ : ∃ b o, ar = some ⟨b, o, none⟩ := by
      rcases HRC.out with h | ⟨b, o, h, _⟩
      · rw [h] at hi; simp at hi
      · exact ⟨b, o, h⟩
    have d1 : decide ((i : Int) ≥ (ls.length : Int)) = false := by simp; omega
    have d2 : decide ((i : Int) < 0) = false := by simp
    go_wp2_with fail
    refine (f1.out _ B2.out).mono ?_
    rintro e w3 ⟨rfl, b3⟩
    have B3 := Lib.hid (B2.out.trans (b3.mono B2.out.size))
    clear b3
    have m1 : IntKind.i64.wrap ((i : Int) + 1) = (i : Int) + 1 := IntWalk.i64_in _ (by omega)
    have m2 : ((i : Int) + 1).toNat = i + 1 := by omega
    have m3 : decide ((i : Int) ≤ (i : Int) + 1) = true := by simp; omega
    obtain ⟨p1, p2, p3⟩ := fir_upto h100 HOK.out HH.out
    obtain ⟨q1, q2, q3⟩ := firI_one HGC.out (HGL.out i hi) HT.out
    obtain ⟨r2, r3⟩ := fir_clear h100 HOK.out (Nat.le_of_lt hi) HCL.out
    have g2 := Lib.hid (fun w1 (B : Below w.heap.size w w1) => first_any _ _ c (ls.take (i + 1)) w1 ((PC.out.below B).mono B.size) ((PR.out.take (n := i + 1) (by omega)).below B |>.mono B.size))
    have g3 := Lib.hid (fun w1 (B : Below w.heap.size w w1) => first_any _ _ c [rk ls i] w1 ((PC.out.below B).mono B.size) ((PR.out.one (cap1 := ls.length + capr - i - 1) hi).below B |>.mono B.size))
    have g1 := Lib.hid (fun w1 (B : Below w.heap.size w w1) => first_any _ _ c (ls.take i) w1 ((PC.out.below B).mono B.size) ((PR.out.take (n := i) (by omega)).below B |>.mono B.size))
    rw [p1, p2, p3] at g2
    rw [q1, q2, q3, show 1 + (ls.length + capr - i - 1) = ls.length + capr - i by omega] at g3
    rw [r2, r3] at g1
    clear p1 p2 p3 q1 q2 q3 r2 r3
    generalize firI c (ls.take i) = fi at *
    go_wp2_with fail
    refine (g2.out _ B3.out).mono ?_
    rintro e w4 ⟨rfl, b4⟩
    have B4 := Lib.hid (B3.out.trans (b4.mono B3.out.size))
    clear b4
    go_wp2_with fail
    refine (g3.out _ B4.out).mono ?_
    rintro e w5 ⟨rfl, b5⟩
    have B5 := Lib.hid (B4.out.trans (b5.mono B4.out.size))
    clear b5
    go_wp2_with fail
    refine (g1.out _ B5.out).mono ?_
    rintro e w8 ⟨rfl, b8⟩
    have B8 := Lib.hid (B5.out.trans (b8.mono B5.out.size))
    clear b8
    go_wp2
    go_loopw [5, 114] (fun u ii wr => ∃ k : Nat, k ≤ i ∧ ii = .int .i64 (k : Int) ∧ u = .bool true ∧ Below w.heap.size w wr) (fun _ ii _ => i - (intOf ii).toNat)
    case atStart => exact ⟨0, by omega, rfl, rfl, B8.out⟩
    case round =>
      obtain ⟨k, hk, rfl, rfl, hB⟩ := hrel
      by_cases hlt : k < i
      · have dk : decide ((k : Int) < ((i : Nat) : Int)) = true := by simp; omega
        obtain ⟨b', o', hab, hb, hcc⟩ := HRC.out.resolve_left (by intro h; rw [h] at hl12; simp_all)
        obtain ⟨u, hu, hpu⟩ := hcc k (by omega)
        cases hab
        have e0 := (hB.cell (p := ⟨b, o + k, none⟩) hb).trans hu
        have hv := hit_any _ u c (rk ls k) wr ((PC.out.below hB).mono hB.size) ((hpu.below hB).mono hB.size)
        obtain ⟨x1, x2⟩ := hit_clear HGC.out (HGL.out k (by omega)) (HCL.out k (by omega))
        rw [x1, x2] at hv
        have hv' := Lib.hid hv
        have kl : (k : Int) < ((i : Nat) : Int) := by omega
        have k0 : (0 : Int) ≤ k := by omega
        have hzr := hB.size
        have HB := Lib.hid hB
        clear hcc hu hpu hB hv x1 x2
        go_wp2_with fail
        refine hv'.out.mono ?_
        rintro e w9 ⟨rfl, hb9⟩
        have B9 := HB.out.trans (hb9.mono hzr)
        have B10 := Lib.hid (B9.alloc B9.size (.cells #[.int .i64 (hitX c (rk ls k)), .int .i64 (hitY c (rk ls k))] 31))
        clear hb9 B9
        go_wp2
        go_roundw
        case rel => exact ⟨k + 1, by omega, by go_num, rfl, B10.out⟩
        case measure => simp [intOf]; omega
      · obtain rfl : i = k := by omega
        have dk : decide (((i : Nat) : Int) < ((i : Nat) : Int)) = false := by simp
        have HB := Lib.hid hB
        clear hB
        go_wp2
        exact bodyPost_ret (results_tmp rfl _ _ _) rfl ⟨rfl, HB.out⟩

set_option maxRecDepth 100000 in
theorem lifted (os : Os) (started : os.Started) (H : Type) (enc : TypeId × Value → H) :
    ReturnsInHanded {} Try.checked os 5 .any (Rows.rocksFirstSpec.pre6 enc Try.prog Try.f5 Rows.rocksFirstRow.domain false) (Rows.rocksFirstSpec.post enc Try.prog Try.f5 false true false false) := by
  refine returnsInHanded_of_change_sized (C := Try.checked) own started (by kernel_rfl) Try.func5
    (ChangeSpec.witness6 (enc := enc) (C := Try.checked) false ⟨#[], #[.slice none 0 0, .slice none 0 0], []⟩ 8 (by kernel_rfl) (by kernel_rfl) (by kernel_rfl) (by kernel_rfl)) ?_
  intro W base args ds gs before hval0 hW hcnd hsz0 _
  have hval : ∀ (j : Nat) t v, Try.f5.params[j]? = some t → args[j]? = some v → Value.okWide Try.prog W .any base t v := hval0
  have hW' := hW
  obtain ⟨p, q, hA0, hV, rfl, hfz, hnd⟩ := hW
  have hA : DataW.TrodAll enc Try.prog W 0 (fun _ => true) true Try.f5.params.toList args.toList ds p := hA0
  have hsz : (DataW.weightsEach Try.prog (Try.f5.params.toList ++ Rows.rocksFirstSpec.plain.varTypes Try.prog) (ds ++ gs)).all (· ≤ reachBytes) = true := hsz0
  rw [Try.params5] at hA hval hsz
  obtain ⟨v0, vs0, d0, ds0, p0, q0, hargs, rfl, rfl, h0, r0⟩ := trodAll_cons hA
  obtain ⟨v1, vs1, d1, ds1, p1, q1, rfl, rfl, rfl, h1, r1⟩ := trodAll_cons r0
  obtain ⟨rfl, rfl, rfl⟩ := trodAll_nil r1
  obtain rfl : args = #[v0, v1] := by cases args; simp_all
  obtain ⟨rfl, rfl⟩ := trodVars_none hV
  have k0 := h0
  have lt0 : ∀ x ∈ p0, x.block < W.heap.size := by obtain ⟨m, hm⟩ := k0; exact DataW.trod_lt m _ _ _ hm
  have z0 : ∀ n ∈ d0.weights Try.prog 22, n ≤ reachBytes := fun n hn => by have := List.all_eq_true.1 hsz n (DataW.weights_mem_each (j := 0) (t := 22) (d := d0) rfl rfl n hn); simpa using this
  obtain ⟨a0, w0⟩ := open_pts_arg (hval 0 22 v0 rfl rfl) h0 z0
  have k1 := h1
  have lt1 : ∀ x ∈ p1, x.block < W.heap.size := by obtain ⟨m, hm⟩ := k1; exact DataW.trod_lt m _ _ _ hm
  have z1 : ∀ n ∈ d1.weights Try.prog 23, n ≤ reachBytes := fun n hn => by have := List.all_eq_true.1 hsz n (DataW.weights_mem_each (j := 1) (t := 23) (d := d1) rfl rfl n hn); simpa using this
  obtain ⟨a1, w1⟩ := open_rocks_arg (hval 1 23 v1 rfl rfl) h1 z1
  clear hA0 hval0
  refine (walk W v0 a0 v1 a1 w0 w1).mono fun e W' ⟨he, bel⟩ => ?_
  subst he
  exact ⟨_, rfl, _, _, _, [], _, [], hW', trodAll_mk1 (shut_bool Try.underlying4 _), (trodAll_cons_mk (Below.trod laidOut (by kernel_rfl) (of_decide_eq_true (by kernel_rfl)) k0 bel lt0) (trodAll_cons_mk (Below.trod laidOut (by kernel_rfl) (of_decide_eq_true (by kernel_rfl)) k1 bel lt1) trodAll_mk0)), rfl, bel.frame _, fun h => by cases h⟩

theorem over : Rows.rocksFirstRow.holds Try.pinned (OpenSpec.ofChange Rows.rocksFirstSpec) :=
  OpenClaim.holds_of_wide 5 Try.f5 rfl rfl rfl rfl rfl rfl rfl ⟨rfl, rfl, rfl, rfl, rfl⟩ rfl rfl rfl rfl rfl (by kernel_rfl) Try.func5 (by kernel_rfl)
    (of_decide_eq_true (by kernel_rfl)) (by unfold Func.isWrapper; first | (rw [if_pos (by decide +kernel)]; kernel_rfl) | (rw [if_neg (by decide +kernel)]; exact ⟨rfl, rfl⟩))
    (fun os started H enc _ => lifted os started H enc)

/-- the statement -/
theorem proved : Rows.RocksFirstSaid := over
#print axioms proved
end Go.Proofs.Ytjjkmonfihomnaa.rocksFirst
