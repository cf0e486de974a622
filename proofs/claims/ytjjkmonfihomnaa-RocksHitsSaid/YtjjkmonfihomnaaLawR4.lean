/- For any corridor and rock: the place that is found is in both; there is none exactly if the corridor is clear, but for those that touch without a place that is found. No condition. -/
import Derived.Test.YtjjkmonfihomnaaHead33
import Derived.Test.YtjjkmonfihomnaaRef3
import Derived.Test.YtjjkmonfihomnaaOpen
namespace Go.Proofs.Ytjjkmonfihomnaa.rocksHits
open Go.ChangeShapes Go.WideShapes Go.ChangeAt Go.RowKit
set_option linter.unusedVariables false
theorem own : ownKnob Try.prog.godebug = none := by kernel_rfl
theorem laidOut : laidOutB Try.prog = true := by kernel_rfl
attribute [local irreducible] wpQuiet

theorem has_both {l : List Pt} {x : Pt} (h : hasB l x = true) : hasE l x = 0 := by
  unfold hasB hasE at *
  simp only [Bool.and_eq_true] at h
  rw [h.1.1, h.1.2]; rfl

set_option linter.unusedSimpArgs false in
set_option maxRecDepth 8000 in
set_option maxHeartbeats 2000000 in
theorem walk (w : World) (vc : Value) (c : List Pt) (vp : Value) (p : List Pt) (hc : PtsAt w.heap.size w vc c) (hp : PtsAt w.heap.size w vp p) :
    Calls Try.prog 6 #[vc, vp] w fun e w' => e = .returned (.bool true) ∧ Below w.heap.size w w' := by
  have PC := Lib.hid hc
  have PP := Lib.hid hp
  have r1 := Lib.hid (fun w1 (B : Below w.heap.size w w1) => rvalid_any vc c w1 ((hc.below B).mono B.size))
  have r2 := Lib.hid (fun w1 (B : Below w.heap.size w w1) => rvalid_any vp p w1 ((hp.below B).mono B.size))
  have h1 := Lib.hid (fun w1 (B : Below w.heap.size w w1) => hit_any vc vp c p w1 ((hc.below B).mono B.size) ((hp.below B).mono B.size))
  obtain ⟨ac, capc, rfl⟩ := hc.len
  obtain ⟨ap, capp, rfl⟩ := hp.len
  have hd := Lib.hid (head33_any w)
  rw [← go_eq_ref] at r1 r2
  clear hc hp
  go_enter Try.func6, Try.ntmps6
  go_wp2_with fail
  refine hd.out.mono ?_
  rintro e w1 ⟨rfl, b1⟩
  have B1 := Lib.hid b1
  clear b1
  cases hv1 : goValid c
  · rw [hv1] at r1
    clear hv1
    go_wp2_with fail
    refine (r1.out _ B1.out).mono ?_
    rintro e w2 ⟨rfl, b2⟩
    have B2 := Lib.hid (B1.out.trans (b2.mono B1.out.size))
    clear b2
    go_wp2_with fail
    exact bodyPost_ret (results_tmp rfl _ _ _) rfl ⟨rfl, B2.out⟩
  have V1 := Lib.hid hv1
  rw [hv1] at r1
  clear hv1
  go_wp2_with fail
  refine (r1.out _ B1.out).mono ?_
  rintro e w2 ⟨rfl, b2⟩
  have B2 := Lib.hid (B1.out.trans (b2.mono B1.out.size))
  clear b2
  cases hv2 : goValid p
  · rw [hv2] at r2
    clear hv2
    go_wp2_with fail
    refine (r2.out _ B2.out).mono ?_
    rintro e w3 ⟨rfl, b3⟩
    have B3 := Lib.hid (B2.out.trans (b3.mono B2.out.size))
    clear b3
    go_wp2_with fail
    exact bodyPost_ret (results_tmp rfl _ _ _) rfl ⟨rfl, B3.out⟩
  have V2 := Lib.hid hv2
  rw [hv2] at r2
  clear hv2
  go_wp2_with fail
  refine (r2.out _ B2.out).mono ?_
  rintro e w3 ⟨rfl, b3⟩
  have B3 := Lib.hid (B2.out.trans (b3.mono B2.out.size))
  clear b3
  go_wp2_with fail
  refine (h1.out _ B3.out).mono ?_
  rintro e w4 ⟨rfl, b4⟩
  have B4 := B3.out.trans (b4.mono B3.out.size)
  obtain ⟨hx, hhx⟩ : ∃ x, hitX c p = x := ⟨_, rfl⟩
  obtain ⟨hy, hhy⟩ : ∃ y, hitY c p = y := ⟨_, rfl⟩
  rw [hhx, hhy]
  have A4 := (Below.refl w4.heap.size w4).alloc (Nat.le_refl _) (.cells #[.int .i64 hx, .int .i64 hy] 31)
  have N4 := Has.new w4 #[.int .i64 hx, .int .i64 hy] 31
  have B5 := B4.trans (A4.mono B4.size)
  obtain ⟨w5, hw5⟩ : ∃ w5, w4.alloc (.cells #[.int .i64 hx, .int .i64 hy] 31) = w5 := ⟨_, rfl⟩
  rw [hw5] at N4 B5
  -- the built row
  have A5 := (Below.refl w5.heap.size w5).alloc (Nat.le_refl _) (.cells #[.slice ap p.length (p.length + capp)] 22)
  have M5 := Has.new w5 #[.slice ap p.length (p.length + capp)] 22
  have N5 := N4.alloc (.cells #[.slice ap p.length (p.length + capp)] 22)
  have B6 := B5.trans (A5.mono B5.size)
  have s5 : w5.heap.size < (w5.alloc (.cells #[.slice ap p.length (p.length + capp)] 22)).heap.size := by simp
  have pp := (PP.out.below B6).mono B6.size
  have pc := (PC.out.below B6).mono B6.size
  have pr := RocksAt.has (ls := [p]) (cap := 0) M5 (by simp) (fun j hj => by
    match j, hj with
    | 0, _ => exact ⟨_, rfl, pp⟩)
  have ff := Lib.hid (first_any _ _ c [p] _ pc pr)
  obtain ⟨g1, g2⟩ := first_one V1.out V2.out
  rw [g1, g2] at ff
  have N5' := Lib.hid N5
  have B6' := Lib.hid B6
  have W5 := Lib.hid hw5
  generalize firI c [p] = fi at *
  clear g1 g2 b4 A4 N4 B4 B5 A5 M5 N5 B6 pp pc pr hw5
  have k6 := N5'.out.lt
  cases hcom : comX c p with
  | none =>
    have hB : hitB c p = false := by unfold hitB; rw [hcom]; simp
    have hE : hitE c p = if touchB c p = true then 20 else 0 := by unfold hitE; rw [V1.out, V2.out, hcom]; rfl
    have hX : hx = 0 ∧ hy = 0 := by
      rw [← hhx, ← hhy]; unfold hitX hitY; rw [V1.out, V2.out, hcom]; exact ⟨rfl, rfl⟩
    obtain ⟨rfl, rfl⟩ := hX
    clear hhx hhy hcom
    rw [hB, hE]
    clear hB hE
    cases htb : touchB c p
    · rw [htb] at ff
      clear htb
      go_upto_region 5 with fail
      rw [W5.out]
      go_wp2_with fail
      refine ff.out.mono ?_
      rintro e w6 ⟨rfl, b6⟩
      have B7 := Lib.hid (B6'.out.trans (b6.mono B6'.out.size))
      have N7 := N5'.out.below b6 k6
      have q0 := N7.cell (i := 0) rfl
      have q1 := N7.cell (i := 1) rfl
      clear b6 N7
      go_wp2_with fail
      exact bodyPost_ret (results_tmp rfl _ _ _) rfl ⟨rfl, B7.out⟩
    · rw [htb] at ff
      clear htb
      go_upto_region 5 with fail
      rw [W5.out]
      go_wp2_with fail
      refine ff.out.mono ?_
      rintro e w6 ⟨rfl, b6⟩
      have B7 := Lib.hid (B6'.out.trans (b6.mono B6'.out.size))
      have N7 := N5'.out.below b6 k6
      have q0 := N7.cell (i := 0) rfl
      have q1 := N7.cell (i := 1) rfl
      clear b6 N7
      go_wp2_with fail
      exact bodyPost_ret (results_tmp rfl _ _ _) rfl ⟨rfl, B7.out⟩
  | some x =>
    have hB : hitB c p = true := by unfold hitB; rw [V1.out, V2.out, hcom]; rfl
    have hE : hitE c p = 0 := by unfold hitE; rw [V1.out, V2.out, hcom]; rfl
    have hX : hx = x.x ∧ hy = x.y := by
      rw [← hhx, ← hhy]; unfold hitX hitY; rw [V1.out, V2.out, hcom]; exact ⟨rfl, rfl⟩
    obtain ⟨rfl, rfl⟩ := hX
    obtain ⟨i1, i2⟩ := comX_in V1.out V2.out hcom
    have htb := touch_of_com V1.out V2.out (by rw [hcom]; rfl)
    have s1 := Lib.hid (fun w1 (B : Below w.heap.size w w1) => has_any _ c x w1 ((PC.out.below B).mono B.size))
    have s2 := Lib.hid (fun w1 (B : Below w.heap.size w w1) => has_any _ p x w1 ((PP.out.below B).mono B.size))
    rw [i1, has_both i1] at s1
    rw [i2, has_both i2] at s2
    rw [htb] at ff
    rw [hB, hE]
    clear hhx hhy hcom hB hE i1 i2 htb
    go_upto_region 5 with fail
    rw [W5.out]
    go_wp2_with fail
    refine ff.out.mono ?_
    rintro e w6 ⟨rfl, b6⟩
    have B7 := Lib.hid (B6'.out.trans (b6.mono B6'.out.size))
    have N7 := Lib.hid (N5'.out.below b6 k6)
    have q0 := N7.out.cell (i := 0) rfl
    have q1 := N7.out.cell (i := 1) rfl
    clear b6
    go_wp2_with fail
    refine (s1.out _ B7.out).mono ?_
    rintro e w7 ⟨rfl, b7⟩
    have B8 := Lib.hid (B7.out.trans (b7.mono B7.out.size))
    have N8 := N7.out.below b7 N7.out.lt
    clear q0 q1 b7
    have q0 := N8.cell (i := 0) rfl
    have q1 := N8.cell (i := 1) rfl
    clear N8
    go_wp2_with fail
    refine (s2.out _ B8.out).mono ?_
    rintro e w8 ⟨rfl, b8⟩
    have B9 := Lib.hid (B8.out.trans (b8.mono B8.out.size))
    clear b8 q0 q1
    go_wp2_with fail
    exact bodyPost_ret (results_tmp rfl _ _ _) rfl ⟨rfl, B9.out⟩

set_option maxRecDepth 100000 in
theorem lifted (os : Os) (started : os.Started) (H : Type) (enc : TypeId × Value → H) :
    ReturnsInHanded {} Try.checked os 6 .any (Rows.rocksHitsSpec.pre6 enc Try.prog Try.f6 Rows.rocksHitsRow.domain false) (Rows.rocksHitsSpec.post enc Try.prog Try.f6 false true false false) := by
  refine returnsInHanded_of_change_sized (C := Try.checked) own started (by kernel_rfl) Try.func6
    (ChangeSpec.witness6 (enc := enc) (C := Try.checked) false ⟨#[], #[.slice none 0 0, .slice none 0 0], []⟩ 8 (by kernel_rfl) (by kernel_rfl) (by kernel_rfl) (by kernel_rfl)) ?_
  intro W base args ds gs before hval0 hW hcnd hsz0 _
  have hval : ∀ (j : Nat) t v, Try.f6.params[j]? = some t → args[j]? = some v → Value.okWide Try.prog W .any base t v := hval0
  have hW' := hW
  obtain ⟨p, q, hA0, hV, rfl, hfz, hnd⟩ := hW
  have hA : DataW.TrodAll enc Try.prog W 0 (fun _ => true) true Try.f6.params.toList args.toList ds p := hA0
  have hsz : (DataW.weightsEach Try.prog (Try.f6.params.toList ++ Rows.rocksHitsSpec.plain.varTypes Try.prog) (ds ++ gs)).all (· ≤ reachBytes) = true := hsz0
  rw [Try.params6] at hA hval hsz
  obtain ⟨v0, vs0, d0, ds0, p0, q0, hargs, rfl, rfl, h0, r0⟩ := trodAll_cons hA
  obtain ⟨v1, vs1, d1, ds1, p1, q1, rfl, rfl, rfl, h1, r1⟩ := trodAll_cons r0
  obtain ⟨rfl, rfl, rfl⟩ := trodAll_nil r1
  obtain rfl : args = #[v0, v1] := by cases args; simp_all
  obtain ⟨rfl, rfl⟩ := trodVars_none hV
  have k0 := h0
  have lt0 : ∀ x ∈ p0, x.block < W.heap.size := by obtain ⟨m, hm⟩ := k0; exact DataW.trod_lt m _ _ _ hm
  have z0 : ∀ n ∈ d0.weights Try.prog 22, n ≤ reachBytes := fun n hn => by have := List.all_eq_true.1 hsz n (DataW.weights_mem_each (j := 0) (t := 22) (d := d0) rfl rfl n hn); simpa using this
  obtain ⟨a0, w0⟩ := open_pts_arg (hval 0 22 v0 rfl rfl) h0 z0
  have k1 := h1
  have lt1 : ∀ x ∈ p1, x.block < W.heap.size := by obtain ⟨m, hm⟩ := k1; exact DataW.trod_lt m _ _ _ hm
  have z1 : ∀ n ∈ d1.weights Try.prog 22, n ≤ reachBytes := fun n hn => by have := List.all_eq_true.1 hsz n (DataW.weights_mem_each (j := 1) (t := 22) (d := d1) rfl rfl n hn); simpa using this
  obtain ⟨a1, w1⟩ := open_pts_arg (hval 1 22 v1 rfl rfl) h1 z1
  clear hA0 hval0
  refine (walk W v0 a0 v1 a1 w0 w1).mono fun e W' ⟨he, bel⟩ => ?_
  subst he
  exact ⟨_, rfl, _, _, _, [], _, [], hW', trodAll_mk1 (shut_bool Try.underlying4 _), (trodAll_cons_mk (Below.trod laidOut (by kernel_rfl) (of_decide_eq_true (by kernel_rfl)) k0 bel lt0) (trodAll_cons_mk (Below.trod laidOut (by kernel_rfl) (of_decide_eq_true (by kernel_rfl)) k1 bel lt1) trodAll_mk0)), rfl, bel.frame _, fun h => by cases h⟩

theorem over : Rows.rocksHitsRow.holds Try.pinned (OpenSpec.ofChange Rows.rocksHitsSpec) :=
  OpenClaim.holds_of_wide 6 Try.f6 rfl rfl rfl rfl rfl rfl rfl ⟨rfl, rfl, rfl, rfl, rfl⟩ rfl rfl rfl rfl rfl (by kernel_rfl) Try.func6 (by kernel_rfl)
    (of_decide_eq_true (by kernel_rfl)) (by unfold Func.isWrapper; first | (rw [if_pos (by decide +kernel)]; kernel_rfl) | (rw [if_neg (by decide +kernel)]; exact ⟨rfl, rfl⟩))
    (fun os started H enc _ => lifted os started H enc)

/-- the statement -/
theorem proved : Rows.RocksHitsSaid := over
#print axioms proved
end Go.Proofs.Ytjjkmonfihomnaa.rocksHits
