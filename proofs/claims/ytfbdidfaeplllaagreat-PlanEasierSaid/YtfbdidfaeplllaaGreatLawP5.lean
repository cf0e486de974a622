/- With fewer rocks, more battery and a later deadline stops lead at least as far. No condition. -/
import Derived.Test.YtfbdidfaeplllaaGreatBin33
import Derived.Test.YtfbdidfaeplllaaGreatBin34
import Derived.Test.YtfbdidfaeplllaaGreatBin31
namespace Go.Proofs.YtfbdidfaeplllaaGreat.planEasier
open Go.ChangeShapes Go.WideShapes Go.ChangeAt Go.RowKit
set_option linter.unusedVariables false
theorem own : ownKnob Tryz.prog.godebug = none := by kernel_rfl
theorem laidOut : laidOutB Tryz.prog = true := by kernel_rfl
attribute [local irreducible] wpQuiet

theorem psInfo : (Tryz.prog.info? 23).map (fun i => (i.zero, i.size, i.bytes)) = some (some (.slice none 0 0), 1, 24) := by kernel_rfl
theorem one_new (W : World) (u : Value) (t : TypeId) : ∀ j x, ([u] : List Value)[j]? = some x → (W.alloc (.cells #[u] t)).cell? ((⟨W.heap.size, 0, none⟩ : Addr).add j) = some x := by
  intro j x hx
  match j, hx with
  | 0, hx => simp at hx; subst hx; exact (Has.new W #[u] t).cell (i := 0) rfl
theorem rocks_own {W : World} {base : Nat} {v : Value} {us : List Value} {ls : List (List Pt)} (h : W.ownsRow base 23 1 v ls.length us) (hl : ls.length ≤ 70368744177663) (hu : ∀ j, j < ls.length → ∃ u, us[j]? = some u ∧ PtsAt W.heap.size W u (rk ls j)) : RocksAt W.heap.size W v ls := by
  refine ⟨hl, ?_⟩
  rcases h.2 with ⟨rfl, h0⟩ | ⟨g, cap, cur, rfl, _, hg, hc, _⟩
  · exact ⟨none, 0, by rw [h0], .inl (List.eq_nil_of_length_eq_zero h0)⟩
  · refine ⟨some ⟨g, 0, none⟩, cap - ls.length, by rw [show ls.length + (cap - ls.length) = cap by omega], .inr ⟨g, 0, rfl, (Array.getElem?_eq_some_iff.1 hg).1, fun j hj => ?_⟩⟩
    obtain ⟨u, h1, h2⟩ := hu j hj
    rw [Nat.zero_add]
    exact ⟨u, (h.cellAt j (by omega)).trans h1, h2⟩
theorem row_slice {W : World} {b : Nat} {t : TypeId} {s n : Nat} {v : Value} {xs : List Value} (h : W.ownsRow b t s v n xs) : ∃ a c, v = .slice a n c := by
  rcases h.2 with ⟨e, e0⟩ | ⟨g, cap, cur, e, -⟩
  · exact ⟨none, 0, by rw [e, e0]⟩
  · exact ⟨_, _, e⟩
/-- the rocks that are kept so far, and their values -/
def Kept (w : World) (ls : List (List Pt)) (k : Nat) (us : List Value) (R : List (List Pt)) : Prop :=
  us.length = R.length ∧ R.length ≤ k ∧ ∀ j, j < R.length → ∃ i u, i < ls.length ∧ rk R j = rk ls i ∧ us[j]? = some u ∧ PtsAt w.heap.size w u (rk R j)
theorem Kept.more {w : World} {ls : List (List Pt)} {k : Nat} {us : List Value} {R : List (List Pt)} (h : Kept w ls k us R) (hk : k < ls.length) {u : Value} (hu : PtsAt w.heap.size w u (rk ls k)) : Kept w ls (k + 1) (us ++ [u]) (R ++ [rk ls k]) := by
  obtain ⟨h1, h2, h3⟩ := h
  refine ⟨by simp [h1], by simp; omega, fun j hj => ?_⟩
  rw [List.length_append, List.length_singleton] at hj
  by_cases e : j < R.length
  · obtain ⟨i, x, a1, a2, a3, a4⟩ := h3 j e
    have er : rk (R ++ [rk ls k]) j = rk R j := by simp only [rk, List.getD_eq_getElem?_getD]; rw [List.getElem?_append_left e]
    exact ⟨i, x, a1, by rw [er]; exact a2, by rw [List.getElem?_append_left (by omega)]; exact a3, by rw [er]; exact a4⟩
  · obtain rfl : j = R.length := by omega
    have er : rk (R ++ [rk ls k]) R.length = rk ls k := by
      generalize rk ls k = x
      unfold rk
      simp
    exact ⟨k, u, hk, er, by rw [← h1]; simp, by rw [er]; exact hu⟩
theorem Kept.skip {w : World} {ls : List (List Pt)} {k : Nat} {us : List Value} {R : List (List Pt)} (h : Kept w ls k us R) : Kept w ls (k + 1) us R := ⟨h.1, Nat.le_succ_of_le h.2.1, h.2.2⟩
theorem Kept.fewer {w : World} {ls : List (List Pt)} {us : List Value} {R : List (List Pt)} (h : Kept w ls ls.length us R) : Fewer R ls :=
  ⟨h.2.1, fun j hj => by obtain ⟨i, -, a, b, -⟩ := h.2.2 j hj; exact ⟨i, a, b⟩⟩
theorem Kept.rocks {w X : World} {ls : List (List Pt)} {k : Nat} {us : List Value} {R : List (List Pt)} (h : Kept w ls k us R) (hk : k ≤ 1000) {n1 : Nat} {v : Value} (hr : X.ownsRow n1 23 1 v R.length us) (hB : Below w.heap.size w X) : RocksAt X.heap.size X v R :=
  rocks_own hr (by have := h.2.1; omega) fun j hj => by obtain ⟨-, u, -, -, a, b⟩ := h.2.2 j hj; exact ⟨u, a, (b.below hB).mono hB.size⟩
/-- a rock's bit -/
def onB (u : Int) (k : Nat) : Bool := bits BinOp.and IntKind.u64 (u / 2 ^ k) 1 == 1
theorem few_rocks {m : Msn} (h : fewB m = true) : m.rocks.length ≤ 12 := by
  simp only [fewB, Bool.and_eq_true, decide_eq_true_eq] at h
  omega

set_option linter.unusedSimpArgs false in
set_option linter.unusedVariables false in
set_option maxRecDepth 8000 in
set_option maxHeartbeats 6400000 in
theorem walk (w : World) (m : Msn) (vw vh vr vl : Value) (l : List Int) (u p q : Int) (hm : MsnAt w.heap.size w m vw vh vr) (hl : IntsAt w.heap.size w vl l) (hu0 : (Lit.int .u64 u).wf = true) (hp0 : (Lit.int .u16 p).wf = true) (hq0 : (Lit.int .u16 q).wf = true) :
    Calls Tryz.prog 9 #[.agg (msnCells m vw vh vr), vl, .int .u64 u, .int .u16 p, .int .u16 q] w fun e w' => e = .returned (.bool true) ∧ Below w.heap.size w w' := by
  obtain ⟨p, rfl, hp⟩ := u16_bd hp0
  obtain ⟨q, rfl, hq⟩ := u16_bd hq0
  have hd := Lib.hid (fun w1 => head35_any w1)
  have ff := fun w1 (B : Below w.heap.size w w1) => few35_any m vw vh vr w1 ((hm.below B).mono B.size)
  have fv := fun w1 (B : Below w.heap.size w w1) => rValid31_any m vw vh vr w1 ((hm.below B).mono B.size)
  have fk := fun w1 (B : Below w.heap.size w w1) => tkeeps_any m vw vh vr vl l w1 ((hm.below B).mono B.size) ((hl.below B).mono B.size)
  have MM := Lib.hid hm
  have LL := Lib.hid hl
  obtain ⟨⟨hm1, a1, cap1, rfl, hcw⟩, ⟨hm2, a2, cap2, rfl, hch⟩, ⟨hm3, a3, cap3, rfl, hcr⟩⟩ := hm
  have HCR := Lib.hid hcr
  obtain ⟨hll, al, capl, rfl, hcl⟩ := hl
  clear hcw hcl hm1 hch hcr hm2 hm3
  unfold msnCells at *
  replace ff := Lib.hid ff
  replace fv := Lib.hid fv
  replace fk := Lib.hid fk
  have BW := Lib.hid (Below.refl w.heap.size w)
  clear hu0 hp0 hq0
  go_enter Tryz.func9, Tryz.ntmps9
  go_wp2_with fail
  generalize hXX0 : World.alloc w _ = X0
  obtain ⟨q0, hA, hzX0⟩ := box1 hXX0
  clear hXX0
  have BW := Lib.hid hA
  clear hA
  have MB := Lib.hid q0
  clear q0
  clear hzX0
  obtain ⟨c0, c1, c2, c3, c4, c5, c6, c7, c8, c9, c10⟩ := msn_cells (m := m) MB.out
  have ltMB := MB.out.lt
  refine (hd.out X0).mono ?_
  rintro e w1 ⟨rfl, b1⟩
  replace BW := Lib.hid (BW.out.trans (b1.mono BW.out.size))
  have B_X0 := Lib.hid b1
  clear b1
  clear c0 c1 c2 c3 c4 c5 c6 c7 c8 c9 c10 ltMB
  obtain ⟨c0, c1, c2, c3, c4, c5, c6, c7, c8, c9, c10⟩ := msn_cells (m := m) (MB.out.below B_X0.out MB.out.lt)
  have ltMB := (MB.out.below B_X0.out MB.out.lt).lt
  go_wp2_with fail
  refine (ff.out _ BW.out).mono ?_
  rintro e w2 ⟨rfl, b2⟩
  replace BW := Lib.hid (BW.out.trans (b2.mono BW.out.size))
  replace B_X0 := Lib.hid (B_X0.out.trans (b2.mono B_X0.out.size))
  clear b2
  clear c0 c1 c2 c3 c4 c5 c6 c7 c8 c9 c10 ltMB
  obtain ⟨c0, c1, c2, c3, c4, c5, c6, c7, c8, c9, c10⟩ := msn_cells (m := m) (MB.out.below B_X0.out MB.out.lt)
  have ltMB := (MB.out.below B_X0.out MB.out.lt).lt
  cases hfew : fewB m
  · skip
    go_wp2
    go_ret
    exact ⟨rfl, BW.out⟩
  have h12 := few_rocks hfew
  clear hfew
  by_cases h60 : 60 < l.length
  · skip
    have d60 : decide ((l.length : Int) > 60) = true := by rw [decide_eq_true_eq]; omega
    go_wp2
    go_ret
    exact ⟨rfl, BW.out⟩
  have d60 : decide ((l.length : Int) > 60) = false := by rw [decide_eq_false_iff_not]; omega
  have n60 : ¬ ((l.length : Int) > 60) := by omega
  go_wp2_with fail
  refine (fv.out _ BW.out).mono ?_
  rintro e w3 ⟨rfl, b3⟩
  replace BW := Lib.hid (BW.out.trans (b3.mono BW.out.size))
  replace B_X0 := Lib.hid (B_X0.out.trans (b3.mono B_X0.out.size))
  clear b3
  clear c0 c1 c2 c3 c4 c5 c6 c7 c8 c9 c10 ltMB
  obtain ⟨c0, c1, c2, c3, c4, c5, c6, c7, c8, c9, c10⟩ := msn_cells (m := m) (MB.out.below B_X0.out MB.out.lt)
  have ltMB := (MB.out.below B_X0.out MB.out.lt).lt
  cases hV : validB m
  · skip
    go_wp2
    go_ret
    exact ⟨rfl, BW.out⟩
  have VV := Lib.hid ((validB_iff m).1 hV)
  have HV := Lib.hid hV
  have hb0 := VV.out.battery
  have hd0 := VV.out.deadline
  have wp : IntKind.i64.wrap (p : Int) = (p : Int) := IntWalk.i64_in _ (by omega)
  have wq : IntKind.i64.wrap (q : Int) = (q : Int) := IntWalk.i64_in _ (by omega)
  have wb : IntKind.i64.wrap (m.battery + (p : Int)) = m.battery + (p : Int) := IntWalk.i64_in _ (by omega)
  have wd : IntKind.i64.wrap (m.deadline + (q : Int)) = m.deadline + (q : Int) := IntWalk.i64_in _ (by omega)
  obtain ⟨b, hbm⟩ : ∃ b, min 1000000000 (m.battery + (p : Int)) = b := ⟨_, rfl⟩
  obtain ⟨d, hdm⟩ : ∃ d, min 1000000000 (m.deadline + (q : Int)) = d := ⟨_, rfl⟩
  have hbb : m.battery ≤ b ∧ b ≤ 1000000000 := by omega
  have hdd : m.deadline ≤ d ∧ d ≤ 1000000000 := by omega
  have HBB := Lib.hid hbb
  have HDD := Lib.hid hdd
  clear hV hbb hdd
  have hw4 := BW.out.size
  have hx4 := B_X0.out.size
  have wlt := (MB.out.below B_X0.out MB.out.lt).lt
  go_upto_region 5 with fail
  generalize hXX4 : World.alloc w3 _ = X4
  obtain ⟨q0, hA, hzX4⟩ := box1 hXX4
  clear hXX4
  replace BW := Lib.hid (BW.out.trans (hA.mono BW.out.size))
  replace B_X0 := Lib.hid (B_X0.out.trans (hA.mono B_X0.out.size))
  clear hA
  have EB := Lib.hid q0
  clear q0
  clear hzX4
  clear c0 c1 c2 c3 c4 c5 c6 c7 c8 c9 c10 ltMB
  have hEB := EB.out
  have l0 : X4.cell? ⟨w3.heap.size, 3, none⟩ = some (.slice a3 m.rocks.length (m.rocks.length + cap3)) := hEB.cell (i := 3) rfl
  have l1 := cells_free hEB 3
  have ltE := hEB.lt
  have HEB := Lib.hid hEB
  clear hEB
  go_upto_region 6 with fail
  clear l0 l1
  generalize hZ : World.setCell X4 _ _ = Z
  have HZ := HEB.out.set 3 (.slice none 0 0)
  have BZ0 := BW.out.setCell (p := ⟨w3.heap.size, 3, none⟩) hw4 (.slice none 0 0)
  have BZ1 := B_X0.out.setCell (p := ⟨w3.heap.size, 3, none⟩) hx4 (.slice none 0 0)
  rw [hZ] at HZ BZ0 BZ1
  clear hZ
  simp only [List.setIfInBounds_toArray, List.set_cons_zero, List.set_cons_succ] at HZ
  replace BW := Lib.hid BZ0
  replace B_X0 := Lib.hid BZ1
  replace EB := Lib.hid HZ
  clear BZ0 BZ1 HZ HEB ltE
  have ltE := EB.out.lt
  obtain ⟨i0, hi, hz0', hz1', hz2'⟩ := info_parts psInfo
  replace hi := Lib.hid hi
  have lm : Z.cell? ⟨w.heap.size, 3, none⟩ = some (.slice a3 m.rocks.length (m.rocks.length + cap3)) := (MB.out.below B_X0.out MB.out.lt).cell (i := 3) rfl
  go_wp2
  clear lm
  replace hi := hi.out
  obtain ⟨bE, hbE⟩ : ∃ x, w3.heap.size = x := ⟨_, rfl⟩
  rw [hbE] at EB ltE hw4 hx4 ⊢
  clear hbE
  go_loopw [41] (fun x wr => ∃ k : Nat, ∃ v us R, k ≤ m.rocks.length ∧ x = .int .i64 (k : Int) ∧ wr.ownsRow Z.heap.size 23 1 v R.length us ∧ Kept w m.rocks k us R ∧ Has wr bE #[.slice a1 m.ways.length (m.ways.length + cap1), .slice a2 m.home.length (m.home.length + cap2), .int .i64 m.start, v, .int .i64 m.speed, .int .i64 m.part, .int .i64 m.flow, .int .i64 m.idle, .int .i64 m.drive, .int .i64 m.battery, .int .i64 m.deadline] 26 ∧ Below w.heap.size w wr ∧ Below X0.heap.size X0 wr ∧ Z.heap.size ≤ wr.heap.size) (fun x _ => m.rocks.length - (intOf x).toNat)
  case atStart => exact ⟨0, _, [], [], by omega, rfl, World.ownsRow_nil _ _ _ _, ⟨rfl, Nat.le_refl _, fun j h => by simp at h⟩, EB.out, BW.out, B_X0.out, Nat.le_refl _⟩
  case round =>
    obtain ⟨k, v, us, R, hk, rfl, hrow, hK, hE, hB, hX, hzr⟩ := hrel
    by_cases hlq : k < m.rocks.length
    · obtain ⟨b', o', rfl, hbr, hcc⟩ := HCR.out.resolve_left (by intro h; rw [h] at hlq; simp at hlq)
      obtain ⟨x, hx, hpx⟩ := hcc k hlq
      have e0 := (hB.cell (p := ⟨b', o' + k, none⟩) hbr).trans hx
      have HPX := Lib.hid hpx
      obtain ⟨ax, cx, rfl⟩ := hpx.len
      obtain ⟨av, cv, rfl⟩ := row_slice hrow
      have dq : decide ((k : Int) < (m.rocks.length : Int)) = true := by simp; omega
      have tq : ((k : Nat) : Int).tmod 64 = k := Int.tmod_eq_of_lt (by omega) (by omega)
      have wk : IntKind.i64.wrap (k : Int) = k := IntWalk.i64_in _ (by omega)
      have hq0 : (0 : Int) ≤ k := by omega
      have hp64 : (k : Int) ≤ 64 := by omega
      have hqi : (k : Int) < m.rocks.length := by omega
      have hKR := hK.2.1
      have HK := Lib.hid hK
      have HROW := Lib.hid hrow
      have HE := Lib.hid hE
      have HB := Lib.hid hB
      have HX := Lib.hid hX
      have l3 := hE.cell (i := 3) rfl
      replace l3 : wr.cell? ⟨bE, 3, none⟩ = some (.slice av R.length cv) := l3
      have f3 := cells_free hE 3
      have ltr := hE.lt
      clear hcc hx hpx hrow hK hE hB hX
      cases hon : onB u k
      · have hon' : (bits BinOp.and IntKind.u64 (u / 2 ^ k) 1 == 1) = false := hon
        clear hon
        go_wp2
        go_roundw
        case rel => exact ⟨k + 1, _, us, R, by omega, by go_num, HROW.out, HK.out.skip, HE.out, HB.out, HX.out, hzr⟩
        case measure => simp [intOf]; omega
      · have hon' : (bits BinOp.and IntKind.u64 (u / 2 ^ k) 1 == 1) = true := hon
        clear hon
        go_wp2_with (at_builtin; refine wpList_append_own _ rfl _ _ 24 rfl Z.heap.size 23 i0 (.slice none 0 0) 1 24 Tryz.underlying24 hi hz0' hz1' hz2' rfl (by decide) _ _ _ rfl (HROW.out.alloc _) ⟨wr.heap.size, 0, none⟩ 1 1 [.slice ax (rk m.rocks k).length ((rk m.rocks k).length + cx)] rfl rfl (one_new _ _ _) (by simp [Value.oneCell']) (by unfold maxLen; omega) (by omega) (by simp; omega) ?_; intro v' w7 hown' hgrow _; have hb0 : Below Z.heap.size wr w7 := ((Below.refl Z.heap.size wr).alloc (by omega) _).grown hgrow (by simp; omega) (fun j ej => (HROW.out.lt j ej).1); have HB0 := Lib.hid hb0; have HOWN := Lib.hid hown'; have HE7 := Lib.hid (HE.out.below hb0 ltE); have lE7 : w7.cell? ⟨bE, 3, none⟩ = some (.slice av R.length cv) := HE7.out.cell (i := 3) rfl; have fE7 := cells_free HE7.out 3; obtain ⟨av', cv', hv'⟩ := row_slice hown'; subst hv'; clear hb0 hown' hgrow)
        go_roundw
        case rel =>
          have hb1 : Below w.heap.size w w7 := HB.out.trans (HB0.out.mono (by omega))
          have hx1 : Below X0.heap.size X0 w7 := HX.out.trans (HB0.out.mono (by omega))
          refine ⟨k + 1, .slice av' (R.length + 1) cv', us ++ [.slice ax (rk m.rocks k).length ((rk m.rocks k).length + cx)], R ++ [rk m.rocks k], by omega, by go_num, ?_, HK.out.more hlq HPX.out, ?_, hb1.setCell (p := ⟨bE, 3, none⟩) hw4 _, hx1.setCell (p := ⟨bE, 3, none⟩) hx4 _, ?_⟩
          · have := ownsRow_setCell_below HOWN.out (a := ⟨bE, 3, none⟩) ltE (.slice av' (R.length + 1) cv')
            simpa using this
          · have := HE7.out.set 3 (.slice av' (R.length + 1) cv')
            simpa using this
          · have := HB0.out.size; simp; omega
        case measure => simp [intOf]; omega
    obtain rfl : k = m.rocks.length := by omega
    have hdq : decide ((m.rocks.length : Int) < (m.rocks.length : Int)) = false := by simp
    obtain ⟨av, cv, rfl⟩ := row_slice hrow
    have HK := Lib.hid hK
    have HROW := Lib.hid hrow
    have HE := Lib.hid hE
    have HB := Lib.hid hB
    have HX := Lib.hid hX
    have M9 : wr.cell? ⟨w.heap.size, 9, none⟩ = some (.int .i64 m.battery) := (MB.out.below hX MB.out.lt).cell (i := 9) rfl
    have M10 : wr.cell? ⟨w.heap.size, 10, none⟩ = some (.int .i64 m.deadline) := (MB.out.below hX MB.out.lt).cell (i := 10) rfl
    have E9 : wr.cell? ⟨bE, 9, none⟩ = some (.int .i64 m.battery) := hE.cell (i := 9) rfl
    have E10 : wr.cell? ⟨bE, 10, none⟩ = some (.int .i64 m.deadline) := hE.cell (i := 10) rfl
    have F9 := cells_free hE 9
    have F10 := cells_free hE 10
    have ltr := hE.lt
    clear hrow hK hE hB hX
    go_upto_region 12 with fail
    go_cut [] from 59 (fun wx => wx.ownsRow Z.heap.size 23 1 (.slice av R.length cv) R.length us ∧ Has wx bE #[.slice a1 m.ways.length (m.ways.length + cap1), .slice a2 m.home.length (m.home.length + cap2), .int .i64 m.start, .slice av R.length cv, .int .i64 m.speed, .int .i64 m.part, .int .i64 m.flow, .int .i64 m.idle, .int .i64 m.drive, .int .i64 b, .int .i64 d] 26 ∧ Below w.heap.size w wx ∧ Below X0.heap.size X0 wx)
    case first =>
      go_region
      all_goals (go_wp2_with fail; go_meet)
      exact ⟨(ownsRow_setCell_below (ownsRow_setCell_below HROW.out (a := ⟨bE, 9, none⟩) ltE (.int .i64 b)) (a := ⟨bE, 10, none⟩) ltE (.int .i64 d)).drew, ((HE.out.set 9 (.int .i64 b)).set 10 (.int .i64 d) : _), Below.drew ((HB.out.setCell (p := ⟨bE, 9, none⟩) hw4 _).setCell (p := ⟨bE, 10, none⟩) hw4 _), Below.drew ((HX.out.setCell (p := ⟨bE, 9, none⟩) hx4 _).setCell (p := ⟨bE, 10, none⟩) hx4 _)⟩
    case rest =>
      obtain ⟨hrow, hE, hB, hX⟩ := hcut
      replace BW := Lib.hid hB
      replace B_X0 := Lib.hid hX
      replace EB := Lib.hid hE
      have hrk := HK.out.rocks (by omega) hrow hB
      have M2 : Hid (MsnAt wc.heap.size wc (eaM m R b d) (.slice a1 m.ways.length (m.ways.length + cap1)) (.slice a2 m.home.length (m.home.length + cap2)) (.slice av R.length cv)) := ⟨(MM.out.1.below hB).mono hB.size, (MM.out.2.1.below hB).mono hB.size, hrk⟩
      obtain ⟨g1, g2⟩ := easier_law (l := l) HK.out.fewer HV.out HBB.out HDD.out
      have fk2 := fun w1 (B : Below wc.heap.size wc w1) (B0 : Below w.heap.size w w1) => tkeeps_any (eaM m R b d) _ _ _ (.slice al l.length (l.length + capl)) l w1 ((M2.out.below B).mono B.size) ((LL.out.below B0).mono B0.size)
      rw [g1] at fk2
      have hE01 : kpE m l = 0 ∨ kpE m l = 1 := by unfold kpE; split <;> simp
      replace fk := fk.out
      generalize kpL (eaM m R b d) l = A2 at fk2 g2
      generalize kpK (eaM m R b d) l = K2 at fk2
      generalize kpL m l = A1 at fk g2
      generalize kpK m l = K1 at fk
      generalize kpE m l = E1 at fk fk2 g2 hE01
      dsimp only [msnCells, eaM] at fk2
      replace fk := Lib.hid fk
      replace fk2 := Lib.hid fk2
      clear hrow hE hB hX hrk M9 M10 E9 E10 F9 F10 ltr HE HB HX HROW HK M2 g1 hi
      have BC := Lib.hid (Below.refl wc.heap.size wc)
      rcases hE01 with rfl | rfl
      · skip
        have dle : decide (A1 ≤ A2) = true := by rw [decide_eq_true_eq]; exact g2 rfl
        have hle := g2 rfl
        clear g2
        obtain ⟨c0, c1, c2, c3, c4, c5, c6, c7, c8, c9, c10⟩ := msn_cells (m := m) (MB.out.below B_X0.out MB.out.lt)
        have ltMB := (MB.out.below B_X0.out MB.out.lt).lt
        obtain ⟨d0, d1, d2, d3, d4, d5, d6, d7, d8, d9, d10⟩ := msn_cells (m := { m with battery := b, deadline := d }) EB.out
        have ltEB := EB.out.lt
        go_wp2_with fail
        refine (fk.out _ BW.out).mono ?_
        rintro e w4 ⟨rfl, b4⟩
        replace BW := Lib.hid (BW.out.trans (b4.mono BW.out.size))
        replace B_X0 := Lib.hid (B_X0.out.trans (b4.mono B_X0.out.size))
        have BC := Lib.hid b4
        clear b4
        clear c0 c1 c2 c3 c4 c5 c6 c7 c8 c9 c10 ltMB d0 d1 d2 d3 d4 d5 d6 d7 d8 d9 d10 ltEB
        obtain ⟨c0, c1, c2, c3, c4, c5, c6, c7, c8, c9, c10⟩ := msn_cells (m := m) (MB.out.below B_X0.out MB.out.lt)
        have ltMB := (MB.out.below B_X0.out MB.out.lt).lt
        obtain ⟨d0, d1, d2, d3, d4, d5, d6, d7, d8, d9, d10⟩ := msn_cells (m := { m with battery := b, deadline := d }) (EB.out.below BC.out EB.out.lt)
        have ltEB := (EB.out.below BC.out EB.out.lt).lt
        go_wp2_with fail
        refine (fk2.out _ BC.out BW.out).mono ?_
        rintro e w5 ⟨rfl, b5⟩
        replace BW := Lib.hid (BW.out.trans (b5.mono BW.out.size))
        replace B_X0 := Lib.hid (B_X0.out.trans (b5.mono B_X0.out.size))
        replace BC := Lib.hid (BC.out.trans (b5.mono BC.out.size))
        clear b5
        clear c0 c1 c2 c3 c4 c5 c6 c7 c8 c9 c10 ltMB d0 d1 d2 d3 d4 d5 d6 d7 d8 d9 d10 ltEB
        obtain ⟨c0, c1, c2, c3, c4, c5, c6, c7, c8, c9, c10⟩ := msn_cells (m := m) (MB.out.below B_X0.out MB.out.lt)
        have ltMB := (MB.out.below B_X0.out MB.out.lt).lt
        obtain ⟨d0, d1, d2, d3, d4, d5, d6, d7, d8, d9, d10⟩ := msn_cells (m := { m with battery := b, deadline := d }) (EB.out.below BC.out EB.out.lt)
        have ltEB := (EB.out.below BC.out EB.out.lt).lt
        go_wp2
        go_ret
        exact ⟨rfl, BW.out⟩
      · skip
        clear g2
        obtain ⟨c0, c1, c2, c3, c4, c5, c6, c7, c8, c9, c10⟩ := msn_cells (m := m) (MB.out.below B_X0.out MB.out.lt)
        have ltMB := (MB.out.below B_X0.out MB.out.lt).lt
        obtain ⟨d0, d1, d2, d3, d4, d5, d6, d7, d8, d9, d10⟩ := msn_cells (m := { m with battery := b, deadline := d }) EB.out
        have ltEB := EB.out.lt
        go_wp2_with fail
        refine (fk.out _ BW.out).mono ?_
        rintro e w6 ⟨rfl, b6⟩
        replace BW := Lib.hid (BW.out.trans (b6.mono BW.out.size))
        replace B_X0 := Lib.hid (B_X0.out.trans (b6.mono B_X0.out.size))
        have BC := Lib.hid b6
        clear b6
        clear c0 c1 c2 c3 c4 c5 c6 c7 c8 c9 c10 ltMB d0 d1 d2 d3 d4 d5 d6 d7 d8 d9 d10 ltEB
        obtain ⟨c0, c1, c2, c3, c4, c5, c6, c7, c8, c9, c10⟩ := msn_cells (m := m) (MB.out.below B_X0.out MB.out.lt)
        have ltMB := (MB.out.below B_X0.out MB.out.lt).lt
        obtain ⟨d0, d1, d2, d3, d4, d5, d6, d7, d8, d9, d10⟩ := msn_cells (m := { m with battery := b, deadline := d }) (EB.out.below BC.out EB.out.lt)
        have ltEB := (EB.out.below BC.out EB.out.lt).lt
        go_wp2_with fail
        refine (fk2.out _ BC.out BW.out).mono ?_
        rintro e w7 ⟨rfl, b7⟩
        replace BW := Lib.hid (BW.out.trans (b7.mono BW.out.size))
        replace B_X0 := Lib.hid (B_X0.out.trans (b7.mono B_X0.out.size))
        replace BC := Lib.hid (BC.out.trans (b7.mono BC.out.size))
        clear b7
        clear c0 c1 c2 c3 c4 c5 c6 c7 c8 c9 c10 ltMB d0 d1 d2 d3 d4 d5 d6 d7 d8 d9 d10 ltEB
        obtain ⟨c0, c1, c2, c3, c4, c5, c6, c7, c8, c9, c10⟩ := msn_cells (m := m) (MB.out.below B_X0.out MB.out.lt)
        have ltMB := (MB.out.below B_X0.out MB.out.lt).lt
        obtain ⟨d0, d1, d2, d3, d4, d5, d6, d7, d8, d9, d10⟩ := msn_cells (m := { m with battery := b, deadline := d }) (EB.out.below BC.out EB.out.lt)
        have ltEB := (EB.out.below BC.out EB.out.lt).lt
        go_wp2
        go_ret
        exact ⟨rfl, BW.out⟩

set_option maxRecDepth 100000 in
theorem lifted (os : Os) (started : os.Started) (H : Type) (enc : TypeId × Value → H) :
    ReturnsInHanded {} Tryz.checked os 9 .any (Rows.planEasierSpec.pre6 enc Tryz.prog Tryz.f9 Rows.planEasierRow.domain false) (Rows.planEasierSpec.post enc Tryz.prog Tryz.f9 false true false false) := by
  refine returnsInHanded_of_change_sized (C := Tryz.checked) own started (by kernel_rfl) Tryz.func9
    (ChangeSpec.witness6 (enc := enc) (C := Tryz.checked) false ⟨#[], #[.agg #[.slice none 0 0, .slice none 0 0, .int .i64 0, .slice none 0 0, .int .i64 0, .int .i64 0, .int .i64 0, .int .i64 0, .int .i64 0, .int .i64 0, .int .i64 0], .slice none 0 0, .int .u64 0, .int .u16 0, .int .u16 0], []⟩ 8 (by kernel_rfl) (by kernel_rfl) (by kernel_rfl) (by kernel_rfl)) ?_
  intro W base args ds gs before hval0 hW hcnd hsz0 _
  have hval : ∀ (j : Nat) t v, Tryz.f9.params[j]? = some t → args[j]? = some v → Value.okWide Tryz.prog W .any base t v := hval0
  have hW' := hW
  obtain ⟨p, q, hA0, hV, rfl, hfz, hnd⟩ := hW
  have hA : DataW.TrodAll enc Tryz.prog W 0 (fun _ => true) true Tryz.f9.params.toList args.toList ds p := hA0
  have hsz : (DataW.weightsEach Tryz.prog (Tryz.f9.params.toList ++ Rows.planEasierSpec.plain.varTypes Tryz.prog) (ds ++ gs)).all (· ≤ reachBytes) = true := hsz0
  rw [Tryz.params9] at hA hval hsz
  obtain ⟨v0, vs0, d0, ds0, p0, q0, hargs, rfl, rfl, h0, r0⟩ := trodAll_cons hA
  obtain ⟨v1, vs1, d1, ds1, p1, q1, rfl, rfl, rfl, h1, r1⟩ := trodAll_cons r0
  obtain ⟨v2, vs2, d2, ds2, p2, q2, rfl, rfl, rfl, h2, r2⟩ := trodAll_cons r1
  obtain ⟨v3, vs3, d3, ds3, p3, q3, rfl, rfl, rfl, h3, r3⟩ := trodAll_cons r2
  obtain ⟨v4, vs4, d4, ds4, p4, q4, rfl, rfl, rfl, h4, r4⟩ := trodAll_cons r3
  obtain ⟨rfl, rfl, rfl⟩ := trodAll_nil r4
  obtain rfl : args = #[v0, v1, v2, v3, v4] := by cases args; simp_all
  obtain ⟨rfl, rfl⟩ := trodVars_none hV
  have k0 := h0
  have lt0 : ∀ x ∈ p0, x.block < W.heap.size := by obtain ⟨m, hm⟩ := k0; exact DataW.trod_lt m _ _ _ hm
  have z0 : ∀ n ∈ d0.weights Tryz.prog 26, n ≤ reachBytes := fun n hn => by have := List.all_eq_true.1 hsz n (DataW.weights_mem_each (j := 0) (t := 26) (d := d0) rfl rfl n hn); simpa using this
  obtain ⟨a0, vw0, vh0, vr0, rfl, w0⟩ := open_msn (hval 0 26 v0 rfl rfl) h0 z0
  have k1 := h1
  have lt1 : ∀ x ∈ p1, x.block < W.heap.size := by obtain ⟨m, hm⟩ := k1; exact DataW.trod_lt m _ _ _ hm
  have z1 : ∀ n ∈ d1.weights Tryz.prog 27, n ≤ reachBytes := fun n hn => by have := List.all_eq_true.1 hsz n (DataW.weights_mem_each (j := 1) (t := 27) (d := d1) rfl rfl n hn); simpa using this
  obtain ⟨a1, w1⟩ := open_ints_arg (hval 1 27 v1 rfl rfl) h1 z1
  obtain ⟨a2, rfl, rfl, rfl, w2⟩ := open_int Tryz.underlying63 (hval 2 63 v2 rfl rfl) h2
  obtain ⟨a3, rfl, rfl, rfl, w3⟩ := open_int Tryz.underlying64 (hval 3 64 v3 rfl rfl) h3
  obtain ⟨a4, rfl, rfl, rfl, w4⟩ := open_int Tryz.underlying64 (hval 4 64 v4 rfl rfl) h4
  clear hA0 hval0
  refine (walk W a0 vw0 vh0 vr0 v1 a1 a2 a3 a4 w0 w1 w2 w3 w4).mono fun e W' ⟨he, bel⟩ => ?_
  subst he
  exact ⟨_, rfl, _, _, _, [], _, [], hW', trodAll_mk1 (shut_bool Tryz.underlying4 _), (trodAll_cons_mk (Below.trod laidOut (by kernel_rfl) (of_decide_eq_true (by kernel_rfl)) k0 bel lt0) (trodAll_cons_mk (Below.trod laidOut (by kernel_rfl) (of_decide_eq_true (by kernel_rfl)) k1 bel lt1) (trodAll_cons_mk (shut_int Tryz.underlying63 w2) (trodAll_cons_mk (shut_int Tryz.underlying64 w3) (trodAll_cons_mk (shut_int Tryz.underlying64 w4) trodAll_mk0))))), rfl, bel.frame _, fun h => by cases h⟩

theorem over : Rows.planEasierRow.holds Tryz.pinned (OpenSpec.ofChange Rows.planEasierSpec) :=
  OpenClaim.holds_of_wide 9 Tryz.f9 rfl rfl rfl rfl rfl rfl rfl ⟨rfl, rfl, rfl, rfl, rfl⟩ rfl rfl rfl rfl rfl (by kernel_rfl) Tryz.func9 (by kernel_rfl)
    (of_decide_eq_true (by kernel_rfl)) (by unfold Func.isWrapper; first | (rw [if_pos (by decide +kernel)]; kernel_rfl) | (rw [if_neg (by decide +kernel)]; exact ⟨rfl, rfl⟩))
    (fun os started H enc _ => lifted os started H enc)

/-- the statement -/
theorem proved : Rows.PlanEasierSaid := over
#print axioms proved
end Go.Proofs.YtfbdidfaeplllaaGreat.planEasier
