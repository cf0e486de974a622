/- A mission that ends with an earlier way, and the stops up to there: if stops lead to a leg before, they lead as far, and its kind is the same; otherwise all legs up to there are kept. No condition. -/
import Derived.Test.YtfbdidfaeplllaaGreatBin31
import Derived.Test.YtfbdidfaeplllaaGreatBin32
import Derived.Test.YtfbdidfaeplllaaGreatBin33
import Derived.Test.YtfbdidfaeplllaaGreatBin16
namespace Go.Proofs.YtfbdidfaeplllaaGreat.planFirst
open Go.ChangeShapes Go.WideShapes Go.ChangeAt Go.RowKit
set_option linter.unusedVariables false
theorem own : ownKnob Tryz.prog.godebug = none := by kernel_rfl
theorem laidOut : laidOutB Tryz.prog = true := by kernel_rfl
attribute [local irreducible] wpQuiet

theorem filt_succ {l : List Int} {k : Nat} (hk : k < l.length) (n : Nat) : cutS (l.take (k + 1)) n = if l.getD k 0 < (n : Int) then cutS (l.take k) n ++ [l.getD k 0] else cutS (l.take k) n := by
  unfold cutS
  have e : l.getD k 0 = l[k] := by simp [List.getD, List.getElem?_eq_getElem hk]
  rw [List.take_add_one, List.filter_append, List.getElem?_eq_getElem hk, e]
  by_cases h : l[k] < (n : Int)
  · simp [h]
  · simp [h]
theorem cutS_len (l : List Int) (n k : Nat) : (cutS (l.take k) n).length ≤ k := by
  unfold cutS
  exact Nat.le_trans (List.length_filter_le _ _) (by rw [List.length_take]; omega)
theorem first_law {m : Msn} {n : Nat} (hn : n ≤ m.ways.length) (h2 : 2 ≤ n) (hV : validB m = true) {l : List Int} (hS : stopsB m l = true) : ∃ a b : Nat, ∃ k j : Int, (kpL m l = a ∧ kpK m l = k ∧ kpE m l = 0) ∧ (kpL (cutM m n) (cutS l n) = b ∧ kpK (cutM m n) (cutS l n) = j ∧ kpE (cutM m n) (cutS l n) = 0) ∧ (a < n - 1 → a = b ∧ k = j) ∧ (¬ a < n - 1 → b = n - 1 ∧ j = 0) := by
  have V := (validB_iff m).1 hV
  have o1 : radOkB m l = true := by unfold radOkB; rw [hV, hS]; rfl
  have o2 : radOkB (cutM m n) (cutS l n) = true := by unfold radOkB; rw [cut_valid hn hV h2, cut_stops hn hS]; rfl
  obtain ⟨a1, a2, a3⟩ := kp_of o1
  obtain ⟨b1, b2, b3⟩ := kp_of o2
  obtain ⟨c1, c2⟩ := cut_lead hn V.ways h2 l
  refine ⟨leadN m l, leadN (cutM m n) (cutS l n), _, _, ⟨a1, a2, a3⟩, ⟨b1, b2, b3⟩, fun h => ?_, fun h => ?_⟩
  · have e := c1 h
    refine ⟨e.symm, ?_⟩
    unfold leadK
    rw [e, cut_len hn, if_pos (by omega), if_pos h, cut_kind hn V.ways l (by omega)]
  · have e := c2 h
    refine ⟨e, ?_⟩
    unfold leadK
    rw [e, cut_len hn, if_neg (by omega)]

set_option linter.unusedSimpArgs false in
set_option linter.unusedVariables false in
set_option maxRecDepth 8000 in
set_option maxHeartbeats 6400000 in
theorem walk (w : World) (m : Msn) (vw vh vr vl : Value) (l : List Int) (u : Int) (hm : MsnAt w.heap.size w m vw vh vr) (hl : IntsAt w.heap.size w vl l) (hu0 : (Lit.int .u8 u).wf = true) :
    Calls Tryz.prog 10 #[.agg (msnCells m vw vh vr), vl, .int .u8 u] w fun e w' => e = .returned (.bool true) ∧ Below w.heap.size w w' := by
  obtain ⟨u, rfl, hu⟩ := u8_bd hu0
  have hd := Lib.hid (fun w1 => head35_any w1)
  have ff := fun w1 (B : Below w.heap.size w w1) => few35_any m vw vh vr w1 ((hm.below B).mono B.size)
  have fv := fun w1 (B : Below w.heap.size w w1) => rValid31_any m vw vh vr w1 ((hm.below B).mono B.size)
  have fs := fun w1 (B : Below w.heap.size w w1) hfx => rstops32_any m vw vh vr vl l w1 hfx ((hm.1.below B).mono B.size) ((hl.below B).mono B.size)
  have fk := fun w1 (B : Below w.heap.size w w1) => tkeeps_any m vw vh vr vl l w1 ((hm.below B).mono B.size) ((hl.below B).mono B.size)
  have MM := Lib.hid hm
  obtain ⟨⟨hm1, a1, cap1, rfl, hcw⟩, ⟨hm2, a2, cap2, rfl, hch⟩, ⟨hm3, a3, cap3, rfl, hcr⟩⟩ := hm
  have HCW := Lib.hid (And.intro hm1 hcw)
  obtain ⟨hll, al, capl, rfl, hcl⟩ := hl
  have HCL := Lib.hid hcl
  clear hcw hcl hm1 hch hcr hm2 hm3
  unfold msnCells at *
  replace ff := Lib.hid ff
  replace fv := Lib.hid fv
  replace fs := Lib.hid fs
  replace fk := Lib.hid fk
  have BW := Lib.hid (Below.refl w.heap.size w)
  clear hu0
  go_enter Tryz.func10, Tryz.ntmps10
  go_wp2_with fail
  generalize hXX0 : World.alloc w _ = X0
  obtain ⟨q0, hA, hzX0⟩ := box1 hXX0
  clear hXX0
  have BW := Lib.hid hA
  clear hA
  have MB := Lib.hid q0
  clear q0
  clear hzX0
  obtain ⟨c0, c1, c2, c3, c4, c5, c6, c7, c8, c9, c10⟩ := msn_cells (m := m) MB.out
  have ltMB := MB.out.lt
  refine (hd.out X0).mono ?_
  rintro e w1 ⟨rfl, b1⟩
  replace BW := Lib.hid (BW.out.trans (b1.mono BW.out.size))
  have B_X0 := Lib.hid b1
  clear b1
  clear c0 c1 c2 c3 c4 c5 c6 c7 c8 c9 c10 ltMB
  obtain ⟨c0, c1, c2, c3, c4, c5, c6, c7, c8, c9, c10⟩ := msn_cells (m := m) (MB.out.below B_X0.out MB.out.lt)
  have ltMB := (MB.out.below B_X0.out MB.out.lt).lt
  go_wp2_with fail
  refine (ff.out _ BW.out).mono ?_
  rintro e w2 ⟨rfl, b2⟩
  replace BW := Lib.hid (BW.out.trans (b2.mono BW.out.size))
  replace B_X0 := Lib.hid (B_X0.out.trans (b2.mono B_X0.out.size))
  clear b2
  clear c0 c1 c2 c3 c4 c5 c6 c7 c8 c9 c10 ltMB
  obtain ⟨c0, c1, c2, c3, c4, c5, c6, c7, c8, c9, c10⟩ := msn_cells (m := m) (MB.out.below B_X0.out MB.out.lt)
  have ltMB := (MB.out.below B_X0.out MB.out.lt).lt
  cases hfew : fewB m
  · skip
    go_wp2
    go_ret
    exact ⟨rfl, BW.out⟩
  have h8 := few_ways hfew
  clear hfew
  by_cases h60 : 60 < l.length
  · skip
    have d60 : decide ((l.length : Int) > 60) = true := by rw [decide_eq_true_eq]; omega
    go_wp2
    go_ret
    exact ⟨rfl, BW.out⟩
  have d60 : decide ((l.length : Int) > 60) = false := by rw [decide_eq_false_iff_not]; omega
  have n60 : ¬ ((l.length : Int) > 60) := by omega
  go_wp2_with fail
  refine (fv.out _ BW.out).mono ?_
  rintro e w3 ⟨rfl, b3⟩
  replace BW := Lib.hid (BW.out.trans (b3.mono BW.out.size))
  replace B_X0 := Lib.hid (B_X0.out.trans (b3.mono B_X0.out.size))
  clear b3
  clear c0 c1 c2 c3 c4 c5 c6 c7 c8 c9 c10 ltMB
  obtain ⟨c0, c1, c2, c3, c4, c5, c6, c7, c8, c9, c10⟩ := msn_cells (m := m) (MB.out.below B_X0.out MB.out.lt)
  have ltMB := (MB.out.below B_X0.out MB.out.lt).lt
  cases hV : validB m
  · skip
    go_wp2
    go_ret
    exact ⟨rfl, BW.out⟩
  have V := (validB_iff m).1 hV
  have n2 := V.n2
  have gs := Lib.hid (fun w1 B => fs.out w1 B (fun k hk => (wayB_true (waysB_at V.ways hk)).2.2.2.2.1))
  clear V
  go_wp2_with fail
  refine (gs.out _ BW.out).mono ?_
  rintro e w4 ⟨rfl, b4⟩
  replace BW := Lib.hid (BW.out.trans (b4.mono BW.out.size))
  replace B_X0 := Lib.hid (B_X0.out.trans (b4.mono B_X0.out.size))
  clear b4
  clear c0 c1 c2 c3 c4 c5 c6 c7 c8 c9 c10 ltMB
  obtain ⟨c0, c1, c2, c3, c4, c5, c6, c7, c8, c9, c10⟩ := msn_cells (m := m) (MB.out.below B_X0.out MB.out.lt)
  have ltMB := (MB.out.below B_X0.out MB.out.lt).lt
  cases hS : stopsB m l
  · skip
    go_wp2
    go_ret
    exact ⟨rfl, BW.out⟩
  obtain ⟨n1, hn1⟩ : ∃ n1, m.ways.length - 1 = n1 := ⟨_, rfl⟩
  have jw : IntKind.i64.wrap ((m.ways.length : Int) - 1) = (n1 : Int) := by rw [show (m.ways.length : Int) - 1 = (n1 : Int) by omega]; exact IntWalk.i64_in _ (by omega)
  obtain ⟨r, hr, hrl, -⟩ := mod_at (i := u) (n := n1) (by omega)
  obtain ⟨n, hn⟩ : ∃ n, 2 + r = n := ⟨_, rfl⟩
  have jn : IntKind.i64.wrap (2 + (r : Int)) = (n : Int) := by rw [show 2 + (r : Int) = (n : Int) by omega]; exact IntWalk.i64_in _ (by omega)
  have jr : IntKind.i64.wrap (r : Int) = (r : Int) := IntWalk.i64_in _ (by omega)
  have dz : ((n1 : Int) == 0) = false := by rw [beq_eq_false_iff_ne]; omega
  have nz : ¬ ((n1 : Int) = 0) := by omega
  have hnl : n ≤ m.ways.length := by omega
  have h2n : 2 ≤ n := by omega
  have LAW := Lib.hid (first_law hnl h2n hV hS)
  have hns : (n : Int) ≤ (m.ways.length : Int) := by omega
  have hnc : n ≤ m.ways.length + cap1 := by omega
  have hnc2 : (n : Int) ≤ ((m.ways.length + cap1 : Nat) : Int) := by omega
  clear hV hS hn hn1
  go_upto_region 6 with fail
  have hw4 := BW.out.size
  have hx4 := B_X0.out.size
  generalize hXX5 : World.alloc w4 _ = X5
  obtain ⟨q0, hA, hzX5⟩ := box1 hXX5
  clear hXX5
  replace BW := Lib.hid (BW.out.trans (hA.mono BW.out.size))
  replace B_X0 := Lib.hid (B_X0.out.trans (hA.mono B_X0.out.size))
  clear hA
  have SB := Lib.hid q0
  clear q0
  clear hzX5
  clear c0 c1 c2 c3 c4 c5 c6 c7 c8 c9 c10 ltMB
  have hSB := SB.out
  obtain ⟨b0, o0, rfl, hb0, hcc⟩ := HCW.out.2.resolve_left (by intro h; rw [h] at n2; simp at n2)
  have l0 : X5.cell? ⟨w4.heap.size, 0, none⟩ = some (.slice (some ⟨b0, o0, none⟩) m.ways.length (m.ways.length + cap1)) := hSB.cell (i := 0) rfl
  have l1 := cells_free hSB 0
  have ltS := hSB.lt
  have lm : X5.cell? ⟨w.heap.size, 0, none⟩ = some (.slice (some ⟨b0, o0, none⟩) m.ways.length (m.ways.length + cap1)) := (MB.out.below B_X0.out MB.out.lt).cell (i := 0) rfl
  obtain ⟨cx, hcx⟩ : ∃ c, m.ways.length + cap1 = n + c := ⟨m.ways.length + cap1 - n, by omega⟩
  have M2 : MsnAt w.heap.size w (cutM m n) (.slice (some ⟨b0, o0, none⟩) n (m.ways.length + cap1)) _ _ := ⟨⟨by rw [cut_len hnl]; have := HCW.out.1; omega, some ⟨b0, o0, none⟩, cx, by rw [cut_len hnl, hcx], .inr ⟨b0, o0, rfl, hb0, fun j hj => by rw [cut_len hnl] at hj; rw [cut_wy hj]; exact hcc j (by omega)⟩⟩, MM.out.2⟩
  have fk2 := fun vl w1 (B : Below w.heap.size w w1) hl => tkeeps_any (cutM m n) (.slice (some ⟨b0, o0, none⟩) n (m.ways.length + cap1)) _ _ vl (cutS l n) w1 ((M2.below B).mono B.size) hl
  obtain ⟨a, b, k, j, ⟨e1, e2, e3⟩, ⟨e4, e5, e6⟩, g1, g2⟩ := LAW.out
  replace fk := fk.out
  rw [e1, e2, e3] at fk
  rw [e4, e5, e6] at fk2
  dsimp only [msnCells, cutM] at fk2
  replace fk := Lib.hid fk
  replace fk2 := Lib.hid fk2
  replace g1 := Lib.hid g1
  replace g2 := Lib.hid g2
  have HSB := Lib.hid hSB
  have BX := Lib.hid (Below.refl X5.heap.size X5)
  clear hSB hcc M2 hcx e1 e2 e3 e4 e5 e6 LAW
  go_upto_region 8 with fail
  clear l0 l1 lm
  generalize hZ : World.setCell X5 _ _ = Z
  have HZ := HSB.out.set 0 (.slice (some ⟨b0, o0, none⟩) n (m.ways.length + cap1))
  have BZ0 := BW.out.setCell (p := ⟨w4.heap.size, 0, none⟩) hw4 (.slice (some ⟨b0, o0, none⟩) n (m.ways.length + cap1))
  have BZ1 := B_X0.out.setCell (p := ⟨w4.heap.size, 0, none⟩) hx4 (.slice (some ⟨b0, o0, none⟩) n (m.ways.length + cap1))
  rw [hZ] at HZ BZ0 BZ1
  clear hZ
  simp only [List.setIfInBounds_toArray, List.set_cons_zero, List.set_cons_succ] at HZ
  replace BW := Lib.hid BZ0
  replace B_X0 := Lib.hid BZ1
  replace SB := Lib.hid HZ
  clear BZ0 BZ1 HZ HSB BX hw4 hx4 ltS
  obtain ⟨i0, hi, hz0', hz1', hz2'⟩ := info_parts intInfo
  replace hi := Lib.hid hi
  go_wp2
  replace hi := hi.out
  go_loopw [10, 56] (fun v x wr => ∃ q : Nat, q ≤ l.length ∧ x = .int .i64 (q : Int) ∧ wr.ownsRow Z.heap.size 3 1 v (cutS (l.take q) n).length ((cutS (l.take q) n).map (Value.int .i64)) ∧ Below Z.heap.size Z wr) (fun _ x _ => l.length - (intOf x).toNat)
  case atStart => exact ⟨0, by omega, rfl, by simpa [cutS] using World.ownsRow_nil _ _ _ _, Below.refl _ _⟩
  case round =>
    obtain ⟨q, hq, rfl, hrow, hB⟩ := hrel
    have hzB := hB.size
    by_cases hlq : q < l.length
    · obtain ⟨bl, ol, rfl, hbl, hcl⟩ : ∃ b1 o1, al = some ⟨b1, o1, none⟩ ∧ b1 < w.heap.size ∧ ∀ j, j < l.length → w.cell? ⟨b1, o1 + j, none⟩ = some (.int .i64 (l.getD j 0)) := by
        rcases HCL.out with h | h
        · rw [h] at hlq; simp at hlq
        · exact h
      have f1 := ((BW.out.trans (hB.mono BW.out.size)).cell (p := ⟨bl, ol + q, none⟩) hbl).trans (hcl q hlq)
      have dq : decide ((q : Int) < (l.length : Int)) = true := by simp; omega
      have hs := Lib.hid (filt_succ hlq n)
      have hsl := cutS_len l n q
      have hqi : (q : Int) < l.length := by omega
      generalize l.getD q 0 = s at *
      have hZZ := Lib.hid hB
      clear hcl hB
      by_cases hsn : s < (n : Int)
      · rw [if_pos hsn] at hs
        have ds : decide (s < (n : Int)) = true := by simpa using hsn
        have hrow' := hrow
        clear hrow
        go_wp2_with (at_builtin; refine wpList_append_own _ rfl _ _ 27 rfl Z.heap.size 3 i0 (.int .i64 0) 1 8 Tryz.underlying27 hi hz0' hz1' hz2' rfl (by decide) _ _ _ rfl (hrow'.alloc _) ⟨wr.heap.size, 0, none⟩ 1 1 [.int .i64 s] rfl rfl (cell_one_new _ _ _) (by simp [Value.oneCell']) (by unfold maxLen; omega) (by omega) (by simp; omega) ?_; intro v' w1 hown' hgrow _)
        go_roundw
        case rel =>
          have hb0 : Below Z.heap.size wr w1 := ((Below.refl Z.heap.size wr).alloc (by omega) _).grown hgrow (by simp; omega) (fun j ej => (hrow'.lt j ej).1)
          refine ⟨q + 1, by omega, by go_num, ?_, hZZ.out.trans (hb0.mono (Nat.le_refl _))⟩
          rw [hs.out]
          simpa using hown'
        case measure => simp [intOf]; omega
      · rw [if_neg hsn] at hs
        have ds : decide (s < (n : Int)) = false := by simpa using hsn
        have hrow' := Lib.hid hrow
        clear hrow
        go_wp2
        go_roundw
        case rel => exact ⟨q + 1, by omega, by go_num, by rw [hs.out]; exact hrow'.out, hZZ.out⟩
        case measure => simp [intOf]; omega
    obtain rfl : q = l.length := by omega
    rw [List.take_length] at hrow
    have S0 := Lib.hid (IntsAt.own hrow (by have := cutS_len l n l.length; rw [List.take_length] at this; omega))
    have hdq : decide ((l.length : Int) < (l.length : Int)) = false := by simp
    clear hrow
    replace BW := Lib.hid (BW.out.trans (hB.mono BW.out.size))
    replace B_X0 := Lib.hid (B_X0.out.trans (hB.mono B_X0.out.size))
    have B_Z := Lib.hid hB
    clear hB
    obtain ⟨-, s1, s2, hv, -⟩ := S0.out
    subst hv
    clear hi
    obtain ⟨c0, c1, c2, c3, c4, c5, c6, c7, c8, c9, c10⟩ := msn_cells (m := m) (MB.out.below B_X0.out MB.out.lt)
    have ltMB := (MB.out.below B_X0.out MB.out.lt).lt
    obtain ⟨d0, d1, d2, d3, d4, d5, d6, d7, d8, d9, d10⟩ := msn_cells (m := m) (SB.out.below B_Z.out SB.out.lt)
    have ltSB := (SB.out.below B_Z.out SB.out.lt).lt
    go_wp2_with fail
    refine (fk.out _ BW.out).mono ?_
    rintro e w5 ⟨rfl, b5⟩
    replace BW := Lib.hid (BW.out.trans (b5.mono BW.out.size))
    replace B_X0 := Lib.hid (B_X0.out.trans (b5.mono B_X0.out.size))
    replace B_Z := Lib.hid (B_Z.out.trans (b5.mono B_Z.out.size))
    have B_wr := Lib.hid b5
    clear b5
    clear c0 c1 c2 c3 c4 c5 c6 c7 c8 c9 c10 ltMB d0 d1 d2 d3 d4 d5 d6 d7 d8 d9 d10 ltSB
    obtain ⟨c0, c1, c2, c3, c4, c5, c6, c7, c8, c9, c10⟩ := msn_cells (m := m) (MB.out.below B_X0.out MB.out.lt)
    have ltMB := (MB.out.below B_X0.out MB.out.lt).lt
    obtain ⟨d0, d1, d2, d3, d4, d5, d6, d7, d8, d9, d10⟩ := msn_cells (m := m) (SB.out.below B_Z.out SB.out.lt)
    have ltSB := (SB.out.below B_Z.out SB.out.lt).lt
    go_wp2_with fail
    refine (fk2.out _ _ BW.out ((S0.out.below B_wr.out).mono B_wr.out.size)).mono ?_
    rintro e w6 ⟨rfl, b6⟩
    replace BW := Lib.hid (BW.out.trans (b6.mono BW.out.size))
    replace B_X0 := Lib.hid (B_X0.out.trans (b6.mono B_X0.out.size))
    replace B_Z := Lib.hid (B_Z.out.trans (b6.mono B_Z.out.size))
    replace B_wr := Lib.hid (B_wr.out.trans (b6.mono B_wr.out.size))
    clear b6
    clear c0 c1 c2 c3 c4 c5 c6 c7 c8 c9 c10 ltMB d0 d1 d2 d3 d4 d5 d6 d7 d8 d9 d10 ltSB
    obtain ⟨c0, c1, c2, c3, c4, c5, c6, c7, c8, c9, c10⟩ := msn_cells (m := m) (MB.out.below B_X0.out MB.out.lt)
    have ltMB := (MB.out.below B_X0.out MB.out.lt).lt
    obtain ⟨d0, d1, d2, d3, d4, d5, d6, d7, d8, d9, d10⟩ := msn_cells (m := m) (SB.out.below B_Z.out SB.out.lt)
    have ltSB := (SB.out.below B_Z.out SB.out.lt).lt
    obtain ⟨p, hp⟩ : ∃ p, n - 1 = p := ⟨_, rfl⟩
    have jp : IntKind.i64.wrap ((n : Int) - 1) = (p : Int) := by rw [show (n : Int) - 1 = (p : Int) by omega]; exact IntWalk.i64_in _ (by omega)
    have g1' := g1.out
    have g2' := g2.out
    rw [hp] at g1' g2'
    clear hp g1 g2
    by_cases hap : a < p
    · skip
      obtain ⟨rfl, rfl⟩ := g1' hap
      have da : decide ((a : Int) < (p : Int)) = true := by rw [decide_eq_true_eq]; omega
      clear g1' g2'
      go_wp2
      go_ret
      exact ⟨rfl, BW.out⟩
    · skip
      obtain ⟨rfl, rfl⟩ := g2' hap
      have da : decide ((a : Int) < (b : Int)) = false := by rw [decide_eq_false_iff_not]; omega
      clear g1' g2'
      go_wp2
      go_ret
      exact ⟨rfl, BW.out⟩

set_option maxRecDepth 100000 in
theorem lifted (os : Os) (started : os.Started) (H : Type) (enc : TypeId × Value → H) :
    ReturnsInHanded {} Tryz.checked os 10 .any (Rows.planFirstSpec.pre6 enc Tryz.prog Tryz.f10 Rows.planFirstRow.domain false) (Rows.planFirstSpec.post enc Tryz.prog Tryz.f10 false true false false) := by
  refine returnsInHanded_of_change_sized (C := Tryz.checked) own started (by kernel_rfl) Tryz.func10
    (ChangeSpec.witness6 (enc := enc) (C := Tryz.checked) false ⟨#[], #[.agg #[.slice none 0 0, .slice none 0 0, .int .i64 0, .slice none 0 0, .int .i64 0, .int .i64 0, .int .i64 0, .int .i64 0, .int .i64 0, .int .i64 0, .int .i64 0], .slice none 0 0, .int .u8 0], []⟩ 8 (by kernel_rfl) (by kernel_rfl) (by kernel_rfl) (by kernel_rfl)) ?_
  intro W base args ds gs before hval0 hW hcnd hsz0 _
  have hval : ∀ (j : Nat) t v, Tryz.f10.params[j]? = some t → args[j]? = some v → Value.okWide Tryz.prog W .any base t v := hval0
  have hW' := hW
  obtain ⟨p, q, hA0, hV, rfl, hfz, hnd⟩ := hW
  have hA : DataW.TrodAll enc Tryz.prog W 0 (fun _ => true) true Tryz.f10.params.toList args.toList ds p := hA0
  have hsz : (DataW.weightsEach Tryz.prog (Tryz.f10.params.toList ++ Rows.planFirstSpec.plain.varTypes Tryz.prog) (ds ++ gs)).all (· ≤ reachBytes) = true := hsz0
  rw [Tryz.params10] at hA hval hsz
  obtain ⟨v0, vs0, d0, ds0, p0, q0, hargs, rfl, rfl, h0, r0⟩ := trodAll_cons hA
  obtain ⟨v1, vs1, d1, ds1, p1, q1, rfl, rfl, rfl, h1, r1⟩ := trodAll_cons r0
  obtain ⟨v2, vs2, d2, ds2, p2, q2, rfl, rfl, rfl, h2, r2⟩ := trodAll_cons r1
  obtain ⟨rfl, rfl, rfl⟩ := trodAll_nil r2
  obtain rfl : args = #[v0, v1, v2] := by cases args; simp_all
  obtain ⟨rfl, rfl⟩ := trodVars_none hV
  have k0 := h0
  have lt0 : ∀ x ∈ p0, x.block < W.heap.size := by obtain ⟨m, hm⟩ := k0; exact DataW.trod_lt m _ _ _ hm
  have z0 : ∀ n ∈ d0.weights Tryz.prog 26, n ≤ reachBytes := fun n hn => by have := List.all_eq_true.1 hsz n (DataW.weights_mem_each (j := 0) (t := 26) (d := d0) rfl rfl n hn); simpa using this
  obtain ⟨a0, vw0, vh0, vr0, rfl, w0⟩ := open_msn (hval 0 26 v0 rfl rfl) h0 z0
  have k1 := h1
  have lt1 : ∀ x ∈ p1, x.block < W.heap.size := by obtain ⟨m, hm⟩ := k1; exact DataW.trod_lt m _ _ _ hm
  have z1 : ∀ n ∈ d1.weights Tryz.prog 27, n ≤ reachBytes := fun n hn => by have := List.all_eq_true.1 hsz n (DataW.weights_mem_each (j := 1) (t := 27) (d := d1) rfl rfl n hn); simpa using this
  obtain ⟨a1, w1⟩ := open_ints_arg (hval 1 27 v1 rfl rfl) h1 z1
  obtain ⟨a2, rfl, rfl, rfl, w2⟩ := open_int Tryz.underlying5 (hval 2 5 v2 rfl rfl) h2
  clear hA0 hval0
  refine (walk W a0 vw0 vh0 vr0 v1 a1 a2 w0 w1 w2).mono fun e W' ⟨he, bel⟩ => ?_
  subst he
  exact ⟨_, rfl, _, _, _, [], _, [], hW', trodAll_mk1 (shut_bool Tryz.underlying4 _), (trodAll_cons_mk (Below.trod laidOut (by kernel_rfl) (of_decide_eq_true (by kernel_rfl)) k0 bel lt0) (trodAll_cons_mk (Below.trod laidOut (by kernel_rfl) (of_decide_eq_true (by kernel_rfl)) k1 bel lt1) (trodAll_cons_mk (shut_int Tryz.underlying5 w2) trodAll_mk0))), rfl, bel.frame _, fun h => by cases h⟩

theorem over : Rows.planFirstRow.holds Tryz.pinned (OpenSpec.ofChange Rows.planFirstSpec) :=
  OpenClaim.holds_of_wide 10 Tryz.f10 rfl rfl rfl rfl rfl rfl rfl ⟨rfl, rfl, rfl, rfl, rfl⟩ rfl rfl rfl rfl rfl (by kernel_rfl) Tryz.func10 (by kernel_rfl)
    (of_decide_eq_true (by kernel_rfl)) (by unfold Func.isWrapper; first | (rw [if_pos (by decide +kernel)]; kernel_rfl) | (rw [if_neg (by decide +kernel)]; exact ⟨rfl, rfl⟩))
    (fun os started H enc _ => lifted os started H enc)

/-- the statement -/
theorem proved : Rows.PlanFirstSaid := over
#print axioms proved
end Go.Proofs.YtfbdidfaeplllaaGreat.planFirst
