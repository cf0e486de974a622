/- For any corridor and rocks: if all are moved alike, the same rock is found, and the place of its hit is moved, as long as all corners are places (up to 12 rocks and 150 corners). No condition. -/
import Derived.Test.YtjjkmonfihomnaaMoved
import Derived.Test.YtjjkmonfihomnaaOpen
namespace Go.Proofs.Ytjjkmonfihomnaa.rocksMoved
open Go.ChangeShapes Go.WideShapes Go.ChangeAt Go.RowKit
set_option linter.unusedVariables false
theorem own : ownKnob Try.prog.godebug = none := by kernel_rfl
theorem laidOut : laidOutB Try.prog = true := by kernel_rfl
attribute [local irreducible] wpQuiet

theorem psInfo : (Try.prog.info? 22).map (fun i => (i.zero, i.size, i.bytes)) = some (some (.slice none 0 0), 1, 24) := by kernel_rfl
theorem owns_base {W : World} {b b' : Nat} {e : TypeId} {s n : Nat} {v : Value} {xs : List Value} (h : W.ownsRow b e s v n xs) (hb : b' ≤ b) : W.ownsRow b' e s v n xs :=
  ⟨h.1, h.2.imp id fun ⟨g, cap, cur, h1, h2, h3⟩ => ⟨g, cap, cur, h1, by omega, h3⟩⟩
theorem row_kept {W W' : World} {b b' : Nat} {e e' : TypeId} {s s' n k : Nat} {u v : Value} {xs ys : List Value} (h : W.ownsRow b e s u n xs) (hv : W.ownsRow b' e' s' v k ys) (hne : e ≠ e') (hg : W.grownBy W' v.ownBlock) : W'.ownsRow b e s u n xs := by
  refine prow_block h fun g hgu => hg.block g (h.lt g hgu).2 fun hgv => ?_
  rcases h.2 with ⟨hu, _⟩ | ⟨g1, c1, cur1, hu, _, k1, _⟩
  · subst hu; simp [Value.ownBlock] at hgu
  · subst hu
    rcases hv.2 with ⟨hv', _⟩ | ⟨g2, c2, cur2, hv', _, k2, _⟩
    · subst hv'; simp [Value.ownBlock] at hgv
    · subst hv'
      simp only [Value.ownBlock, Option.some.injEq] at hgu hgv
      subst hgu
      subst hgv
      rw [k1] at k2
      cases k2
      exact hne rfl
theorem one_new (W : World) (u : Value) (t : TypeId) : ∀ j x, ([u] : List Value)[j]? = some x → (W.alloc (.cells #[u] t)).cell? ((⟨W.heap.size, 0, none⟩ : Addr).add j) = some x := by
  intro j x hx
  match j, hx with
  | 0, hx => simp at hx; subst hx; exact (Has.new W #[u] t).cell (i := 0) rfl
theorem rocks_own {W : World} {base : Nat} {v : Value} {us : List Value} {ls : List (List Pt)} (h : W.ownsRow base 22 1 v ls.length us) (hl : ls.length ≤ 70368744177663) (hu : ∀ j, j < ls.length → ∃ u, us[j]? = some u ∧ PtsAt W.heap.size W u (rk ls j)) : RocksAt W.heap.size W v ls := by
  refine ⟨hl, ?_⟩
  rcases h.2 with ⟨rfl, h0⟩ | ⟨g, cap, cur, rfl, _, hg, hc, _⟩
  · exact ⟨none, 0, by rw [h0], .inl (List.eq_nil_of_length_eq_zero h0)⟩
  · refine ⟨some ⟨g, 0, none⟩, cap - ls.length, by rw [show ls.length + (cap - ls.length) = cap by omega], .inr ⟨g, 0, rfl, (Array.getElem?_eq_some_iff.1 hg).1, fun j hj => ?_⟩⟩
    obtain ⟨u, h1, h2⟩ := hu j hj
    rw [Nat.zero_add]
    exact ⟨u, (h.cellAt j (by omega)).trans h1, h2⟩
/-- the rocks that are moved so far -/
def Rows (b0 : Nat) (d : Pt) (ls : List (List Pt)) (k : Nat) (W : World) (v : Value) (us : List Value) : Prop :=
  W.ownsRow b0 22 1 v k us ∧ ∀ j, j < k → ∃ u, us[j]? = some u ∧ W.ownsRow b0 31 2 u (rk ls j).length (ptCells (mvL d (rk ls j)))
theorem Rows.below {b0 k : Nat} {d : Pt} {ls : List (List Pt)} {W W' : World} {v : Value} {us : List Value} (h : Rows b0 d ls k W v us) (hb : Below W.heap.size W W') : Rows b0 d ls k W' v us :=
  ⟨prow_below h.1 hb, fun j hj => by obtain ⟨u, h1, h2⟩ := h.2 j hj; exact ⟨u, h1, prow_below h2 hb⟩⟩
theorem Rows.rocks {b0 : Nat} {d : Pt} {ls : List (List Pt)} {W : World} {v : Value} {us : List Value} (h : Rows b0 d ls ls.length W v us) (hl : ls.length ≤ 12) (hs : ∀ j, j < ls.length → (rk ls j).length ≤ 64) : RocksAt W.heap.size W v (mvR d ls) := by
  refine rocks_own (us := us) (by rw [mvR_len]; exact h.1) (by rw [mvR_len]; omega) fun j hj => ?_
  rw [mvR_len] at hj
  obtain ⟨u, h1, h2⟩ := h.2 j hj
  rw [rk_mvR d hj]
  exact ⟨u, h1, PtsAt.own h2 (by rw [mvL_len]; have := hs j hj; omega)⟩

theorem fir_mv {d : Pt} {c : List Pt} {ls : List (List Pt)} (h : usableB c ls = true) (h' : usableB (mvL d c) (mvR d ls) = true) : firI (mvL d c) (mvR d ls) = natO (hitTo c ls ls.length) ∧ firB (mvL d c) (mvR d ls) = (hitTo c ls ls.length).isSome ∧ firE (mvL d c) (mvR d ls) = 0 := by
  obtain ⟨a1, a2, a3, a4⟩ := usableB_iff.1 h
  obtain ⟨b1, b2, b3, b4⟩ := usableB_iff.1 h'
  have hok : okRocks (mvL d c) (mvR d ls) = true := by rw [okRocks_eq, b3, Bool.true_and, polysB_iff]; exact b4
  obtain ⟨e1, e2, e3⟩ := fir_ok (by omega) hok
  rw [mvR_len] at e1 e2 b4
  rw [hitTo_mv a3 b3 a4 b4 _ (Nat.le_refl _)] at e1 e2
  exact ⟨e1, e2, e3⟩
theorem hit_bd {l m : List Pt} (hl : goValid l = true) (hm : goValid m = true) (h : hitB l m = true) : -500000 ≤ hitX l m ∧ hitX l m ≤ 500000 ∧ -500000 ≤ hitY l m ∧ hitY l m ≤ 500000 := by
  unfold hitB at h
  rw [hl, hm] at h
  unfold hitX hitY
  rw [hl, hm]
  cases hc : comX l m with
  | none => rw [hc] at h; cases h
  | some x =>
    have := (comX_in hl hm hc).1
    unfold hasB at this
    simp only [Bool.and_eq_true] at this
    exact place_iff.1 this.1.2

set_option linter.unusedSimpArgs false in
set_option maxRecDepth 8000 in
set_option maxHeartbeats 2000000 in
theorem walk (w : World) (vc : Value) (c : List Pt) (vr : Value) (ls : List (List Pt)) (px py : Int) (hc : PtsAt w.heap.size w vc c) (hr : RocksAt w.heap.size w vr ls) :
    Calls Try.prog 8 #[vc, vr, .agg #[.int .i64 px, .int .i64 py]] w fun e w' => e = .returned (.bool true) ∧ Below w.heap.size w w' := by
  have PC := Lib.hid hc
  have u1 := Lib.hid (fun w1 (B : Below w.heap.size w w1) => usable_any vc vr c ls w1 ((hc.below B).mono B.size) ((hr.below B).mono B.size))
  have f1 := Lib.hid (fun w1 (B : Below w.heap.size w w1) => first_any vc vr c ls w1 ((hc.below B).mono B.size) ((hr.below B).mono B.size))
  obtain ⟨ac, capc, rfl⟩ := hc.len
  obtain ⟨ar, capr, rfl, hrc⟩ := hr.2
  have HRC := Lib.hid hrc
  have hA := (Below.refl w.heap.size w).alloc (Nat.le_refl _) (.cells #[.int .i64 px, .int .i64 py] 31)
  have hN := Has.new w #[.int .i64 px, .int .i64 py] 31
  have hd := Lib.hid (head33_any (w.alloc (.cells #[.int .i64 px, .int .i64 py] 31)))
  clear hc hr hrc
  go_enter Try.func8, Try.ntmps8
  have HA := Lib.hid hA
  have HN := Lib.hid hN
  have hs0 : w.heap.size < (w.alloc (.cells #[.int .i64 px, .int .i64 py] 31)).heap.size := by simp
  clear hA hN
  go_wp2_with fail
  refine hd.out.mono ?_
  rintro e w1 ⟨rfl, b1⟩
  have B1 := Lib.hid (HA.out.trans (b1.mono HA.out.size))
  have N1 := Lib.hid (HN.out.below b1 hs0)
  have hs1 := N1.out.lt
  clear b1 hs0
  cases hv1 : usableB c ls
  · rw [hv1] at u1
    clear hv1
    go_wp2_with fail
    refine (u1.out _ B1.out).mono ?_
    rintro e w2 ⟨rfl, b2⟩
    have B2 := Lib.hid (B1.out.trans (b2.mono B1.out.size))
    clear b2
    go_wp2_with fail
    exact bodyPost_ret (results_tmp rfl _ _ _) rfl ⟨rfl, B2.out⟩
  rw [hv1] at u1
  obtain ⟨hl12, hs150, hgc, hgl⟩ := usableB_iff.1 hv1
  have hok : okRocks c ls = true := by rw [okRocks_eq, hgc, Bool.true_and, polysB_iff]; exact hgl
  have HGC := Lib.hid hgc
  have HGL := Lib.hid hgl
  have HV1 := Lib.hid hv1
  have h100 : ls.length ≤ 100 := by omega
  clear hv1 hs150 hgl
  go_wp2_with fail
  refine (u1.out _ B1.out).mono ?_
  rintro e w2 ⟨rfl, b2⟩
  have B2 := Lib.hid (B1.out.trans (b2.mono B1.out.size))
  have N2 := Lib.hid (N1.out.below b2 hs1)
  have hs2 := N2.out.lt
  clear b2
  have pl := rplace_any px py w2
  have x0 := N2.out.cell (i := 0) rfl
  have x1 := N2.out.cell (i := 1) rfl
  cases hpl : placeB px py
  · rw [hpl] at pl
    have pl' := Lib.hid pl
    clear pl hpl hok hgc
    go_wp2_with fail
    refine pl'.out.mono ?_
    rintro e w3 ⟨rfl, b3⟩
    have B3 := Lib.hid (B2.out.trans (b3.mono B2.out.size))
    clear b3
    go_wp2_with fail
    exact bodyPost_ret (results_tmp rfl _ _ _) rfl ⟨rfl, B3.out⟩
  rw [hpl] at pl
  have pl' := Lib.hid pl
  have HPL : Hid (placeP ⟨px, py⟩ = true) := hpl
  have pd := placeB_true hpl
  obtain ⟨e1, e2, e3⟩ := fir_ok h100 hok
  rw [e1, e2, e3] at f1
  clear e1 e2 e3 hok hgc pl hpl
  go_wp2_with fail
  refine pl'.out.mono ?_
  rintro e w3 ⟨rfl, b3⟩
  have B3 := Lib.hid (B2.out.trans (b3.mono B2.out.size))
  have N3 := Lib.hid (N2.out.below b3 hs2)
  have hs3 := N3.out.lt
  clear b3 x0 x1
  have x0 := N3.out.cell (i := 0) rfl
  have x1 := N3.out.cell (i := 1) rfl
  have GC := goValid_true HGC.out
  have hm1 := Lib.hid (moved_any _ c ⟨px, py⟩ w3 ((PC.out.below B3.out).mono B3.out.size) GC.2.1 (fun k hk => (GC.2.2.1 k hk).1) HPL.out)
  clear GC
  go_wp2_with fail
  refine hm1.out.mono ?_
  rintro e w4 ⟨vd, rfl, r4, b4⟩
  have B4 := Lib.hid (B3.out.trans (b4.mono B3.out.size))
  have N4 := Lib.hid (N3.out.below b4 hs3)
  have hs4 := N4.out.lt
  have hz4 := B4.out.size
  have R4 := Lib.hid (owns_base r4 (show w.heap.size + 1 ≤ w3.heap.size from hs3))
  clear b4 x0 x1 r4
  obtain ⟨i0, hi, hz0', hz1', hz2'⟩ := info_parts psInfo
  go_wp2
  go_loopw [9, 40] (fun v i wr => ∃ k : Nat, ∃ us, k ≤ ls.length ∧ i = .int .i64 (k : Int) ∧ Rows (w.heap.size + 1) ⟨px, py⟩ ls k wr v us ∧ wr.ownsRow (w.heap.size + 1) 31 2 vd c.length (ptCells (mvL ⟨px, py⟩ c)) ∧ Has wr w.heap.size #[.int .i64 px, .int .i64 py] 31 ∧ Below w.heap.size w wr) (fun _ i _ => ls.length - (intOf i).toNat)
  case atStart => exact ⟨0, [], by omega, rfl, ⟨World.ownsRow_nil _ _ _ _, fun j h => by omega⟩, R4.out, N4.out, B4.out⟩
  case round =>
    obtain ⟨k, us, hk, rfl, hR, hD, hN, hB⟩ := hrel
    by_cases hlt : k < ls.length
    · have dk : decide ((k : Int) < (ls.length : Int)) = true := by simp; omega
      obtain ⟨b', o', rfl, hb, hcc⟩ := HRC.out.resolve_left (by intro h; rw [h] at hlt; simp at hlt)
      obtain ⟨u, hu, hpu⟩ := hcc k hlt
      have e0 := (hB.cell (p := ⟨b', o' + k, none⟩) hb).trans hu
      have x0 := hN.cell (i := 0) rfl
      have x1 := hN.cell (i := 1) rfl
      have GL := goValid_true (HGL.out k hlt)
      have hv := Lib.hid (moved_any u (rk ls k) ⟨px, py⟩ wr ((hpu.below hB).mono hB.size) GL.2.1 (fun k hk => (GL.2.2.1 k hk).1) HPL.out)
      have kl : (k : Int) < ls.length := by omega
      have k0 : (0 : Int) ≤ k := by omega
      have hzr := hB.size
      have hnz := hN.lt
      have HB := Lib.hid hB
      have HR := Lib.hid hR
      have HD := Lib.hid hD
      have HN5 := Lib.hid hN
      clear hcc hu hpu hB hR hD hN GL
      go_wp2_with fail
      refine hv.out.mono ?_
      rintro e w6 ⟨vu, rfl, r6, b6⟩
      obtain ⟨a6, c6, hvu⟩ : ∃ a6 c6, vu = .slice a6 (rk ls k).length c6 := by
        rcases r6.2 with ⟨h, h0⟩ | ⟨g, cap, cur, h, _⟩
        · exact ⟨none, 0, by rw [h, h0]⟩
        · exact ⟨_, _, h⟩
      have r6' := owns_base r6 (show w.heap.size + 1 ≤ wr.heap.size from hnz)
      have B6 := Lib.hid (HB.out.trans (b6.mono hzr))
      have R6 := Lib.hid (HR.out.below b6)
      have D6 := Lib.hid (prow_below HD.out b6)
      have N6 := Lib.hid (HN5.out.below b6 hnz)
      subst hvu
      have V6 := Lib.hid r6'
      have hz6 := N6.out.lt
      clear b6 x0 x1 e0 r6 r6'
      have A6 := Lib.hid ((Below.refl w6.heap.size w6).alloc (Nat.le_refl _) (.cells #[.slice a6 (rk ls k).length c6] 22))
      go_wp2_with (at_builtin; refine wpList_append_own _ rfl _ _ 23 rfl (w.heap.size + 1) 22 i0 (.slice none 0 0) 1 24 Try.underlying23 hi hz0' hz1' hz2' rfl (by decide) _ _ _ rfl (R6.out.1.alloc _) ⟨w6.heap.size, 0, none⟩ 1 1 [.slice a6 (rk ls k).length c6] rfl rfl (one_new _ _ _) (by simp [Value.oneCell']) (by unfold maxLen; omega) (by omega) (by simp; omega) ?_; intro v' w7 hown' hgrow _)
      go_roundw
      case rel =>
        have RA := R6.out.below A6.out
        have DA := prow_below D6.out A6.out
        have VA := prow_below V6.out A6.out
        have hb0 : Below w.heap.size w6 w7 := ((Below.refl w.heap.size w6).alloc (by omega) _).grown hgrow (by simp; omega) (fun j ej => by have := (RA.1.lt j ej).1; omega)
        refine ⟨k + 1, us ++ [.slice a6 (rk ls k).length c6], by omega, by go_num, ⟨hown', fun j hj => ?_⟩, row_kept DA RA.1 (by decide) hgrow, ?_, B6.out.trans hb0⟩
        · have hul : us.length = k := by have := RA.1.1; omega
          by_cases e : j = k
          · subst e
            exact ⟨_, by rw [List.getElem?_append_right (by omega), hul]; simp, row_kept VA RA.1 (by decide) hgrow⟩
          · obtain ⟨u', h1, h2⟩ := RA.2 j (by omega)
            exact ⟨u', by rw [List.getElem?_append_left (by omega)]; exact h1, row_kept h2 RA.1 (by decide) hgrow⟩
        · have hb1 : Below (w.heap.size + 1) w6 w7 := ((Below.refl (w.heap.size + 1) w6).alloc (by omega) _).grown hgrow (by simp; omega) (fun j ej => (RA.1.lt j ej).1)
          exact N6.out.below hb1 (by omega)
      case measure => simp [intOf]; omega
    · obtain rfl : k = ls.length := by omega
      have dk : decide ((ls.length : Int) < (ls.length : Int)) = false := by simp
      have hdl : (mvL ⟨px, py⟩ c).length ≤ 70368744177663 := by rw [mvL_len]; have := (goValid_true HGC.out).2.1; omega
      have PD := PtsAt.own hD hdl
      have PR := hR.rocks hl12 (fun j hj => (goValid_true (HGL.out j hj)).2.1)
      have PD' := Lib.hid PD
      have PR' := Lib.hid PR
      have HB := Lib.hid hB
      have HN5 := Lib.hid hN
      have HR := Lib.hid hR
      have hzr := hB.size
      have hnz := hN.lt
      have u2 := Lib.hid (usable_any vd u9 (mvL ⟨px, py⟩ c) (mvR ⟨px, py⟩ ls) wr PD PR)
      have ff1 := Lib.hid (fun w1 (B : Below wr.heap.size wr w1) => f1.out w1 (HB.out.trans (B.mono hzr)))
      have ff2 := Lib.hid (fun w1 (B : Below wr.heap.size wr w1) => first_any vd u9 (mvL ⟨px, py⟩ c) (mvR ⟨px, py⟩ ls) w1 ((PD.below B).mono B.size) ((PR.below B).mono B.size))
      obtain ⟨ad, capd, hvd⟩ := PD.len
      rw [mvL_len] at hvd
      subst hvd
      obtain ⟨av, capv, hvv⟩ := PR.2
      replace hvv := hvv.1
      rw [mvR_len] at hvv
      subst hvv
      clear hB hR hD hN PD PR f1 hdl
      cases hv2 : usableB (mvL ⟨px, py⟩ c) (mvR ⟨px, py⟩ ls)
      · rw [hv2] at u2
        clear hv2
        go_wp2_with fail
        refine u2.out.mono ?_
        rintro e w6 ⟨rfl, b6⟩
        have B6 := Lib.hid (HB.out.trans (b6.mono hzr))
        clear b6
        go_wp2_with fail
        exact bodyPost_ret (results_tmp rfl _ _ _) rfl ⟨rfl, B6.out⟩
      rw [hv2] at u2
      obtain ⟨e1, e2, e3⟩ := fir_mv HV1.out hv2
      rw [e1, e2, e3] at ff2
      have HV2 := Lib.hid hv2
      clear e1 e2 e3 hv2
      go_wp2_with fail
      refine u2.out.mono ?_
      rintro e w6 ⟨rfl, b6⟩
      have B6 := Lib.hid b6
      clear b6
      go_wp2_with fail
      refine (ff1.out _ B6.out).mono ?_
      rintro e w7 ⟨rfl, b7⟩
      have B7 := Lib.hid (B6.out.trans (b7.mono B6.out.size))
      clear b7
      go_wp2_with fail
      refine (ff2.out _ B7.out).mono ?_
      rintro e w8 ⟨rfl, b8⟩
      have B8 := Lib.hid (B7.out.trans (b8.mono B7.out.size))
      have BB8 := Lib.hid (HB.out.trans (B8.out.mono hzr))
      clear b8
      cases hh : hitTo c ls ls.length with
      | none =>
        simp only [natO, Option.isSome_none]
        clear hh
        by_cases hl0 : ls.length = 0
        · have dz : decide ((0 : Int) ≥ (ls.length : Int)) = true := decide_eq_true (by omega)
          have dz2 : decide ((ls.length : Int) ≤ (0 : Int)) = true := decide_eq_true (by omega)
          have dz3 : decide (ls.length ≤ 0) = true := decide_eq_true (by omega)
          have dz4 : ls = [] := List.eq_nil_of_length_eq_zero hl0
          go_wp2_with fail
          all_goals exact bodyPost_ret (results_tmp rfl _ _ _) rfl ⟨rfl, BB8.out⟩
        · have dz : decide ((0 : Int) ≥ (ls.length : Int)) = false := decide_eq_false (by omega)
          have dz4 : ¬ ls = [] := fun h => hl0 (by rw [h]; rfl)
          go_wp2_with fail
          all_goals exact bodyPost_ret (results_tmp rfl _ _ _) rfl ⟨rfl, BB8.out⟩
      | some q =>
        obtain ⟨hq, _, _⟩ := hitTo_some hh
        simp only [natO, Option.isSome_some]
        clear hh
        have hgq := HGL.out q hq
        obtain ⟨b1, b2, b3, b4⟩ := usableB_iff.1 HV2.out
        have hgq' := b4 q (by rw [mvR_len]; exact hq)
        rw [rk_mvR _ hq] at hgq'
        obtain ⟨t1, t2, t3⟩ := hit_mv (b := ⟨px, py⟩) HGC.out hgq b3 hgq'
        have bd := hit_bd HGC.out hgq
        obtain ⟨b', o', rfl, hb, hcc⟩ := HRC.out.resolve_left (by intro h; rw [h] at hq; simp at hq)
        obtain ⟨u, hu, hpu⟩ := hcc q hq
        obtain ⟨_, a5, c5, e5, h5⟩ := PR'.out
        rw [mvR_len] at e5
        simp only [Value.slice.injEq] at e5
        obtain ⟨rfl, _, _⟩ := e5
        obtain ⟨b5, o5, rfl, hb5, hc5⟩ := h5.resolve_left (by intro h; have := mvR_len ⟨px, py⟩ ls; rw [h] at this; simp at this; omega)
        obtain ⟨u5, hu5, hpu5⟩ := hc5 q (by rw [mvR_len]; exact hq)
        rw [rk_mvR _ hq] at hpu5
        have k1 := Lib.hid (fun w1 (B : Below w.heap.size w w1) => hit_any _ u c (rk ls q) w1 ((PC.out.below B).mono B.size) ((hpu.below B).mono B.size))
        have k2 := Lib.hid (fun w1 (B : Below wr.heap.size wr w1) => hit_any _ u5 (mvL ⟨px, py⟩ c) (mvL ⟨px, py⟩ (rk ls q)) w1 ((PD'.out.below B).mono B.size) ((hpu5.below B).mono B.size))
        rw [t1, t2] at k2
        have Hu := Lib.hid (fun w1 (B : Below w.heap.size w w1) => (B.cell (p := ⟨b', o' + q, none⟩) hb).trans hu)
        have Hu5 := Lib.hid (fun w1 (B : Below wr.heap.size wr w1) => (B.cell (p := ⟨b5, o5 + q, none⟩) hb5).trans hu5)
        have e0 := Hu.out _ BB8.out
        have d1 : decide ((q : Int) ≥ (ls.length : Int)) = false := by simp; omega
        have d2 : decide ((q : Int) < 0) = false := by simp
        have ql : (q : Int) < ls.length := by omega
        have q0 : (0 : Int) ≤ q := by omega
        clear hgq hgq' b1 b2 b3 b4 hcc hu hpu hc5 h5 hu5 hpu5 t1 t2 hb
        obtain ⟨hx, hhx⟩ : ∃ x, hitX c (rk ls q) = x := ⟨_, rfl⟩
        obtain ⟨hy, hhy⟩ : ∃ y, hitY c (rk ls q) = y := ⟨_, rfl⟩
        obtain ⟨gx, hgx⟩ : ∃ x, hitX (mvL ⟨px, py⟩ c) (mvL ⟨px, py⟩ (rk ls q)) = x := ⟨_, rfl⟩
        obtain ⟨gy, hgy⟩ : ∃ y, hitY (mvL ⟨px, py⟩ c) (mvL ⟨px, py⟩ (rk ls q)) = y := ⟨_, rfl⟩
        obtain ⟨hb', hhb⟩ : ∃ b, hitB c (rk ls q) = b := ⟨_, rfl⟩
        obtain ⟨he', hhe⟩ : ∃ b, hitE c (rk ls q) = b := ⟨_, rfl⟩
        rw [hhx, hhy, hgx, hgy, hhb] at t3
        rw [hhx, hhy, hhb] at bd
        rw [hhx, hhy, hhb, hhe] at k1
        rw [hgx, hgy, hhb, hhe] at k2
        clear hhx hhy hgx hgy hhb hhe
        go_wp2_with fail
        refine (k1.out _ BB8.out).mono ?_
        rintro e w9 ⟨rfl, b9⟩
        have B9 := B8.out.trans (b9.mono B8.out.size)
        have A9 := (Below.refl w9.heap.size w9).alloc (Nat.le_refl _) (.cells #[.int .i64 hx, .int .i64 hy] 31)
        have BA := Lib.hid (B9.trans (A9.mono B9.size))
        have NA := Lib.hid (Has.new w9 #[.int .i64 hx, .int .i64 hy] 31)
        have e1 := Hu5.out _ BA.out
        clear e0 b9 B9 A9
        go_wp2_with fail
        refine (k2.out _ BA.out).mono ?_
        rintro e w10 ⟨rfl, b10⟩
        have sA : w9.heap.size < (w9.alloc (.cells #[.int .i64 hx, .int .i64 hy] 31)).heap.size := by simp
        have B10 := BA.out.trans (b10.mono BA.out.size)
        have N10 := NA.out.below b10 sA
        have A10 := (Below.refl w10.heap.size w10).alloc (Nat.le_refl _) (.cells #[.int .i64 gx, .int .i64 gy] 31)
        have M10 := Has.new w10 #[.int .i64 gx, .int .i64 gy] 31
        have N11 := N10.below A10 N10.lt
        have B11 := B10.trans (A10.mono B10.size)
        have P11 := HN5.out.below B11 hnz
        have BF := Lib.hid (HB.out.trans (B11.mono hzr))
        have z0 := M10.cell (i := 0) rfl
        have z1 := M10.cell (i := 1) rfl
        have z2 := N11.cell (i := 0) rfl
        have z3 := N11.cell (i := 1) rfl
        have z4 := P11.cell (i := 0) rfl
        have z5 := P11.cell (i := 1) rfl
        clear e1 b10 B10 N10 A10 M10 N11 B11 P11 sA
        cases hb'
        · clear t3 bd
          go_wp2_with fail
          exact bodyPost_ret (results_tmp rfl _ _ _) rfl ⟨rfl, BF.out⟩
        · obtain ⟨rfl, rfl⟩ := t3 rfl
          have bd' := bd rfl
          have m1 : IntKind.i64.wrap (hx + px) = hx + px := IntWalk.i64_in _ (by omega)
          have m2 : IntKind.i64.wrap (hy + py) = hy + py := IntWalk.i64_in _ (by omega)
          clear t3 bd bd'
          go_wp2_with fail
          exact bodyPost_ret (results_tmp rfl _ _ _) rfl ⟨rfl, BF.out⟩

set_option maxRecDepth 100000 in
theorem lifted (os : Os) (started : os.Started) (H : Type) (enc : TypeId × Value → H) :
    ReturnsInHanded {} Try.checked os 8 .any (Rows.rocksMovedSpec.pre6 enc Try.prog Try.f8 Rows.rocksMovedRow.domain false) (Rows.rocksMovedSpec.post enc Try.prog Try.f8 false true false false) := by
  refine returnsInHanded_of_change_sized (C := Try.checked) own started (by kernel_rfl) Try.func8
    (ChangeSpec.witness6 (enc := enc) (C := Try.checked) false ⟨#[], #[.slice none 0 0, .slice none 0 0, .agg #[.int .i64 0, .int .i64 0]], []⟩ 8 (by kernel_rfl) (by kernel_rfl) (by kernel_rfl) (by kernel_rfl)) ?_
  intro W base args ds gs before hval0 hW hcnd hsz0 _
  have hval : ∀ (j : Nat) t v, Try.f8.params[j]? = some t → args[j]? = some v → Value.okWide Try.prog W .any base t v := hval0
  have hW' := hW
  obtain ⟨p, q, hA0, hV, rfl, hfz, hnd⟩ := hW
  have hA : DataW.TrodAll enc Try.prog W 0 (fun _ => true) true Try.f8.params.toList args.toList ds p := hA0
  have hsz : (DataW.weightsEach Try.prog (Try.f8.params.toList ++ Rows.rocksMovedSpec.plain.varTypes Try.prog) (ds ++ gs)).all (· ≤ reachBytes) = true := hsz0
  rw [Try.params8] at hA hval hsz
  obtain ⟨v0, vs0, d0, ds0, p0, q0, hargs, rfl, rfl, h0, r0⟩ := trodAll_cons hA
  obtain ⟨v1, vs1, d1, ds1, p1, q1, rfl, rfl, rfl, h1, r1⟩ := trodAll_cons r0
  obtain ⟨v2, vs2, d2, ds2, p2, q2, rfl, rfl, rfl, h2, r2⟩ := trodAll_cons r1
  obtain ⟨rfl, rfl, rfl⟩ := trodAll_nil r2
  obtain rfl : args = #[v0, v1, v2] := by cases args; simp_all
  obtain ⟨rfl, rfl⟩ := trodVars_none hV
  have k0 := h0
  have lt0 : ∀ x ∈ p0, x.block < W.heap.size := by obtain ⟨m, hm⟩ := k0; exact DataW.trod_lt m _ _ _ hm
  have z0 : ∀ n ∈ d0.weights Try.prog 22, n ≤ reachBytes := fun n hn => by have := List.all_eq_true.1 hsz n (DataW.weights_mem_each (j := 0) (t := 22) (d := d0) rfl rfl n hn); simpa using this
  obtain ⟨a0, w0⟩ := open_pts_arg (hval 0 22 v0 rfl rfl) h0 z0
  have k1 := h1
  have lt1 : ∀ x ∈ p1, x.block < W.heap.size := by obtain ⟨m, hm⟩ := k1; exact DataW.trod_lt m _ _ _ hm
  have z1 : ∀ n ∈ d1.weights Try.prog 23, n ≤ reachBytes := fun n hn => by have := List.all_eq_true.1 hsz n (DataW.weights_mem_each (j := 1) (t := 23) (d := d1) rfl rfl n hn); simpa using this
  obtain ⟨a1, w1⟩ := open_rocks_arg (hval 1 23 v1 rfl rfl) h1 z1
  have k2 := h2
  have lt2 : ∀ x ∈ p2, x.block < W.heap.size := by obtain ⟨m, hm⟩ := k2; exact DataW.trod_lt m _ _ _ hm
  obtain ⟨a2, b2, rfl⟩ := open_point (hval 2 31 v2 rfl rfl) h2
  clear hA0 hval0
  refine (walk W v0 a0 v1 a1 a2 b2 w0 w1).mono fun e W' ⟨he, bel⟩ => ?_
  subst he
  exact ⟨_, rfl, _, _, _, [], _, [], hW', trodAll_mk1 (shut_bool Try.underlying4 _), (trodAll_cons_mk (Below.trod laidOut (by kernel_rfl) (of_decide_eq_true (by kernel_rfl)) k0 bel lt0) (trodAll_cons_mk (Below.trod laidOut (by kernel_rfl) (of_decide_eq_true (by kernel_rfl)) k1 bel lt1) (trodAll_cons_mk (Below.trod laidOut (by kernel_rfl) (of_decide_eq_true (by kernel_rfl)) k2 bel lt2) trodAll_mk0))), rfl, bel.frame _, fun h => by cases h⟩

theorem over : Rows.rocksMovedRow.holds Try.pinned (OpenSpec.ofChange Rows.rocksMovedSpec) :=
  OpenClaim.holds_of_wide 8 Try.f8 rfl rfl rfl rfl rfl rfl rfl ⟨rfl, rfl, rfl, rfl, rfl⟩ rfl rfl rfl rfl rfl (by kernel_rfl) Try.func8 (by kernel_rfl)
    (of_decide_eq_true (by kernel_rfl)) (by unfold Func.isWrapper; first | (rw [if_pos (by decide +kernel)]; kernel_rfl) | (rw [if_neg (by decide +kernel)]; exact ⟨rfl, rfl⟩))
    (fun os started H enc _ => lifted os started H enc)

/-- the statement -/
theorem proved : Rows.RocksMovedSaid := over
#print axioms proved
end Go.Proofs.Ytjjkmonfihomnaa.rocksMoved
