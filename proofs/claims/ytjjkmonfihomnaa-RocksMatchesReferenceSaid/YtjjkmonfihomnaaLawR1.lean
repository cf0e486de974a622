/- For any corridor and rocks, both functions return what the reference implementation returns (up to 12 rocks and 150 corners, or more than 100 rocks). No condition. -/
import Derived.Test.YtjjkmonfihomnaaHead33
import Derived.Test.YtjjkmonfihomnaaRRocks
import Derived.Test.YtjjkmonfihomnaaOpen
namespace Go.Proofs.Ytjjkmonfihomnaa.rocksMatchesReference
open Go.ChangeShapes Go.WideShapes Go.ChangeAt Go.RowKit
set_option linter.unusedVariables false
theorem own : ownKnob Try.prog.godebug = none := by kernel_rfl
theorem laidOut : laidOutB Try.prog = true := by kernel_rfl
attribute [local irreducible] wpQuiet

theorem few3_any (v : Value) (l : List Pt) (w : World) (hp : PtsAt w.heap.size w v l) :
    Calls Try.prog 13 #[v] w fun e w' => e = .returned (.bool (decide (l.length ≤ 80))) ∧ w = w' := by
  obtain ⟨a, cap, rfl⟩ := hp.len
  have d : decide ((l.length : Int) ≤ 80) = decide (l.length ≤ 80) := by rw [decide_eq_decide]; omega
  clear hp
  generalize decide (l.length ≤ 80) = b at *
  go_enter Try.func13, Try.ntmps13
  go_wp2
  go_ret
  exact ⟨rfl, rfl⟩

set_option linter.unusedSimpArgs false in
set_option maxRecDepth 8000 in
set_option maxHeartbeats 3000000 in
theorem walk (w : World) (vc : Value) (c : List Pt) (vp : Value) (p : List Pt) (vr : Value) (ls : List (List Pt)) (hc : PtsAt w.heap.size w vc c) (hp : PtsAt w.heap.size w vp p) (hr : RocksAt w.heap.size w vr ls) :
    Calls Try.prog 3 #[vc, vp, vr] w fun e w' => e = .returned (.bool true) ∧ Below w.heap.size w w' := by
  have k1 := Lib.hid (fun w1 (B : Below w.heap.size w w1) => few3_any vc c w1 ((hc.below B).mono B.size))
  have k2 := Lib.hid (fun w1 (B : Below w.heap.size w w1) => few3_any vp p w1 ((hp.below B).mono B.size))
  have k3 := Lib.hid (fun w1 (B : Below w.heap.size w w1) => few33_any vr ls w1 ((hr.below B).mono B.size))
  have f1 := Lib.hid (fun w1 (B : Below w.heap.size w w1) => first_any vc vr c ls w1 ((hc.below B).mono B.size) ((hr.below B).mono B.size))
  have f2 := Lib.hid (fun w1 (B : Below w.heap.size w w1) => rfirst_any vc vr c ls w1 ((hc.below B).mono B.size) ((hr.below B).mono B.size))
  have f3 := Lib.hid (fun w1 (B : Below w.heap.size w w1) => hit_any vc vp c p w1 ((hc.below B).mono B.size) ((hp.below B).mono B.size))
  have f4 := Lib.hid (fun w1 (B : Below w.heap.size w w1) => rhit_any vc vp c p w1 ((hc.below B).mono B.size) ((hp.below B).mono B.size))
  obtain ⟨ac, capc, rfl⟩ := hc.len
  obtain ⟨ap, capp, rfl⟩ := hp.len
  obtain ⟨_, ar, capr, rfl, _⟩ := hr
  have hd := Lib.hid (head33_any w)
  clear hc hp
  generalize firI c ls = i at *
  generalize firB c ls = is at *
  generalize firE c ls = e at *
  generalize hitX c p = x at *
  generalize hitY c p = y at *
  generalize hitB c p = at' at *
  generalize hitE c p = g at *
  go_enter Try.func3, Try.ntmps3
  go_wp2_with fail
  refine hd.out.mono ?_
  rintro e' w1 ⟨rfl, b1⟩
  have B1 := Lib.hid b1
  clear b1
  cases hv1 : decide (c.length ≤ 80)
  · rw [hv1] at k1
    clear hv1
    go_wp2_with fail
    refine (k1.out _ B1.out).mono ?_
    rintro e' w2 ⟨rfl, rfl⟩
    go_wp2_with fail
    exact bodyPost_ret (results_tmp rfl _ _ _) rfl ⟨rfl, B1.out⟩
  rw [hv1] at k1
  clear hv1
  go_wp2_with fail
  refine (k1.out _ B1.out).mono ?_
  rintro e' w2 ⟨rfl, rfl⟩
  cases hv2 : decide (p.length ≤ 80)
  · rw [hv2] at k2
    clear hv2
    go_wp2_with fail
    refine (k2.out _ B1.out).mono ?_
    rintro e' w2 ⟨rfl, rfl⟩
    go_wp2_with fail
    exact bodyPost_ret (results_tmp rfl _ _ _) rfl ⟨rfl, B1.out⟩
  rw [hv2] at k2
  clear hv2
  go_wp2_with fail
  refine (k2.out _ B1.out).mono ?_
  rintro e' w2 ⟨rfl, rfl⟩
  cases hv3 : few33B ls
  · rw [hv3] at k3
    clear hv3
    by_cases hb : ls.length ≤ 100
    · have d1 : decide ((ls.length : Int) ≤ 100) = true := by simp; omega
      go_wp2_with fail
      refine (k3.out _ B1.out).mono ?_
      rintro e' w3 ⟨rfl, b3⟩
      have B3 := Lib.hid (B1.out.trans (b3.mono B1.out.size))
      clear b3
      go_wp2_with fail
      exact bodyPost_ret (results_tmp rfl _ _ _) rfl ⟨rfl, B3.out⟩
    have d1 : decide ((ls.length : Int) ≤ 100) = false := by simp; omega
    go_wp2_with fail
    refine (k3.out _ B1.out).mono ?_
    rintro e' w3 ⟨rfl, b3⟩
    have B3 := Lib.hid (B1.out.trans (b3.mono B1.out.size))
    clear b3
    go_wp2_with fail
    refine (f1.out _ B3.out).mono ?_
    rintro e' w4 ⟨rfl, b4⟩
    have B4 := Lib.hid (B3.out.trans (b4.mono B3.out.size))
    clear b4
    go_wp2_with fail
    refine (f2.out _ B4.out).mono ?_
    rintro e' w5 ⟨rfl, b5⟩
    have B5 := Lib.hid (B4.out.trans (b5.mono B4.out.size))
    clear b5
    go_wp2_with fail
    refine (f3.out _ B5.out).mono ?_
    rintro e' w6 ⟨rfl, b6⟩
    have B6 := B5.out.trans (b6.mono B5.out.size)
    have A6 := (Below.refl w6.heap.size w6).alloc (Nat.le_refl _) (.cells #[.int .i64 x, .int .i64 y] 31)
    have C6 := Lib.hid (B6.trans (A6.mono B6.size))
    have N6 := Lib.hid (Has.new w6 #[.int .i64 x, .int .i64 y] 31)
    clear b6 B6 A6
    go_wp2_with fail
    refine (f4.out _ C6.out).mono ?_
    rintro e' w7 ⟨rfl, b7⟩
    have z7 := b7.size
    rw [World.size_alloc] at z7
    have N7 := N6.out.below b7 (by simp)
    have B7 := C6.out.trans (b7.mono C6.out.size)
    have A7 := (Below.refl w7.heap.size w7).alloc (Nat.le_refl _) (.cells #[.int .i64 x, .int .i64 y] 31)
    have M7 := Has.new w7 #[.int .i64 x, .int .i64 y] 31
    have N8 := N7.below A7 (by omega)
    have C7 := Lib.hid (B7.trans (A7.mono B7.size))
    have m0 := M7.cell (i := 0) rfl
    have m1 := M7.cell (i := 1) rfl
    have n0 := N8.cell (i := 0) rfl
    have n1 := N8.cell (i := 1) rfl
    clear b7 N7 B7 A7 M7 N8
    go_wp2_with fail
    exact bodyPost_ret (results_tmp rfl _ _ _) rfl ⟨rfl, C7.out⟩
  · rw [hv3] at k3
    clear hv3
    go_wp2_with fail
    refine (k3.out _ B1.out).mono ?_
    rintro e' w3 ⟨rfl, b3⟩
    have B3 := Lib.hid (B1.out.trans (b3.mono B1.out.size))
    clear b3
    go_wp2_with fail
    refine (f1.out _ B3.out).mono ?_
    rintro e' w4 ⟨rfl, b4⟩
    have B4 := Lib.hid (B3.out.trans (b4.mono B3.out.size))
    clear b4
    go_wp2_with fail
    refine (f2.out _ B4.out).mono ?_
    rintro e' w5 ⟨rfl, b5⟩
    have B5 := Lib.hid (B4.out.trans (b5.mono B4.out.size))
    clear b5
    go_wp2_with fail
    refine (f3.out _ B5.out).mono ?_
    rintro e' w6 ⟨rfl, b6⟩
    have B6 := B5.out.trans (b6.mono B5.out.size)
    have A6 := (Below.refl w6.heap.size w6).alloc (Nat.le_refl _) (.cells #[.int .i64 x, .int .i64 y] 31)
    have C6 := Lib.hid (B6.trans (A6.mono B6.size))
    have N6 := Lib.hid (Has.new w6 #[.int .i64 x, .int .i64 y] 31)
    clear b6 B6 A6
    go_wp2_with fail
    refine (f4.out _ C6.out).mono ?_
    rintro e' w7 ⟨rfl, b7⟩
    have z7 := b7.size
    rw [World.size_alloc] at z7
    have N7 := N6.out.below b7 (by simp)
    have B7 := C6.out.trans (b7.mono C6.out.size)
    have A7 := (Below.refl w7.heap.size w7).alloc (Nat.le_refl _) (.cells #[.int .i64 x, .int .i64 y] 31)
    have M7 := Has.new w7 #[.int .i64 x, .int .i64 y] 31
    have N8 := N7.below A7 (by omega)
    have C7 := Lib.hid (B7.trans (A7.mono B7.size))
    have m0 := M7.cell (i := 0) rfl
    have m1 := M7.cell (i := 1) rfl
    have n0 := N8.cell (i := 0) rfl
    have n1 := N8.cell (i := 1) rfl
    clear b7 N7 B7 A7 M7 N8
    go_wp2_with fail
    exact bodyPost_ret (results_tmp rfl _ _ _) rfl ⟨rfl, C7.out⟩

set_option maxRecDepth 100000 in
theorem lifted (os : Os) (started : os.Started) (H : Type) (enc : TypeId × Value → H) :
    ReturnsInHanded {} Try.checked os 3 .any (Rows.rocksMatchesReferenceSpec.pre6 enc Try.prog Try.f3 Rows.rocksMatchesReferenceRow.domain false) (Rows.rocksMatchesReferenceSpec.post enc Try.prog Try.f3 false true false false) := by
  refine returnsInHanded_of_change_sized (C := Try.checked) own started (by kernel_rfl) Try.func3
    (ChangeSpec.witness6 (enc := enc) (C := Try.checked) false ⟨#[], #[.slice none 0 0, .slice none 0 0, .slice none 0 0], []⟩ 8 (by kernel_rfl) (by kernel_rfl) (by kernel_rfl) (by kernel_rfl)) ?_
  intro W base args ds gs before hval0 hW hcnd hsz0 _
  have hval : ∀ (j : Nat) t v, Try.f3.params[j]? = some t → args[j]? = some v → Value.okWide Try.prog W .any base t v := hval0
  have hW' := hW
  obtain ⟨p, q, hA0, hV, rfl, hfz, hnd⟩ := hW
  have hA : DataW.TrodAll enc Try.prog W 0 (fun _ => true) true Try.f3.params.toList args.toList ds p := hA0
  have hsz : (DataW.weightsEach Try.prog (Try.f3.params.toList ++ Rows.rocksMatchesReferenceSpec.plain.varTypes Try.prog) (ds ++ gs)).all (· ≤ reachBytes) = true := hsz0
  rw [Try.params3] at hA hval hsz
  obtain ⟨v0, vs0, d0, ds0, p0, q0, hargs, rfl, rfl, h0, r0⟩ := trodAll_cons hA
  obtain ⟨v1, vs1, d1, ds1, p1, q1, rfl, rfl, rfl, h1, r1⟩ := trodAll_cons r0
  obtain ⟨v2, vs2, d2, ds2, p2, q2, rfl, rfl, rfl, h2, r2⟩ := trodAll_cons r1
  obtain ⟨rfl, rfl, rfl⟩ := trodAll_nil r2
  obtain rfl : args = #[v0, v1, v2] := by cases args; simp_all
  obtain ⟨rfl, rfl⟩ := trodVars_none hV
  have k0 := h0
  have lt0 : ∀ x ∈ p0, x.block < W.heap.size := by obtain ⟨m, hm⟩ := k0; exact DataW.trod_lt m _ _ _ hm
  have z0 : ∀ n ∈ d0.weights Try.prog 22, n ≤ reachBytes := fun n hn => by have := List.all_eq_true.1 hsz n (DataW.weights_mem_each (j := 0) (t := 22) (d := d0) rfl rfl n hn); simpa using this
  obtain ⟨a0, w0⟩ := open_pts_arg (hval 0 22 v0 rfl rfl) h0 z0
  have k1 := h1
  have lt1 : ∀ x ∈ p1, x.block < W.heap.size := by obtain ⟨m, hm⟩ := k1; exact DataW.trod_lt m _ _ _ hm
  have z1 : ∀ n ∈ d1.weights Try.prog 22, n ≤ reachBytes := fun n hn => by have := List.all_eq_true.1 hsz n (DataW.weights_mem_each (j := 1) (t := 22) (d := d1) rfl rfl n hn); simpa using this
  obtain ⟨a1, w1⟩ := open_pts_arg (hval 1 22 v1 rfl rfl) h1 z1
  have k2 := h2
  have lt2 : ∀ x ∈ p2, x.block < W.heap.size := by obtain ⟨m, hm⟩ := k2; exact DataW.trod_lt m _ _ _ hm
  have z2 : ∀ n ∈ d2.weights Try.prog 23, n ≤ reachBytes := fun n hn => by have := List.all_eq_true.1 hsz n (DataW.weights_mem_each (j := 2) (t := 23) (d := d2) rfl rfl n hn); simpa using this
  obtain ⟨a2, w2⟩ := open_rocks_arg (hval 2 23 v2 rfl rfl) h2 z2
  clear hA0 hval0
  refine (walk W v0 a0 v1 a1 v2 a2 w0 w1 w2).mono fun e W' ⟨he, bel⟩ => ?_
  subst he
  exact ⟨_, rfl, _, _, _, [], _, [], hW', trodAll_mk1 (shut_bool Try.underlying4 _), (trodAll_cons_mk (Below.trod laidOut (by kernel_rfl) (of_decide_eq_true (by kernel_rfl)) k0 bel lt0) (trodAll_cons_mk (Below.trod laidOut (by kernel_rfl) (of_decide_eq_true (by kernel_rfl)) k1 bel lt1) (trodAll_cons_mk (Below.trod laidOut (by kernel_rfl) (of_decide_eq_true (by kernel_rfl)) k2 bel lt2) trodAll_mk0))), rfl, bel.frame _, fun h => by cases h⟩

theorem over : Rows.rocksMatchesReferenceRow.holds Try.pinned (OpenSpec.ofChange Rows.rocksMatchesReferenceSpec) :=
  OpenClaim.holds_of_wide 3 Try.f3 rfl rfl rfl rfl rfl rfl rfl ⟨rfl, rfl, rfl, rfl, rfl⟩ rfl rfl rfl rfl rfl (by kernel_rfl) Try.func3 (by kernel_rfl)
    (of_decide_eq_true (by kernel_rfl)) (by unfold Func.isWrapper; first | (rw [if_pos (by decide +kernel)]; kernel_rfl) | (rw [if_neg (by decide +kernel)]; exact ⟨rfl, rfl⟩))
    (fun os started H enc _ => lifted os started H enc)

/-- the statement -/
theorem proved : Rows.RocksMatchesReferenceSaid := over
#print axioms proved
end Go.Proofs.Ytjjkmonfihomnaa.rocksMatchesReference
