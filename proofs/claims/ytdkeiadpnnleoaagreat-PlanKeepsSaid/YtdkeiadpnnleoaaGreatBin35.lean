/- The walk of the law: Stops lead up to the first leg that is not kept, and its kind is the one that the packages say. -/
import Derived.Test.YtdkeiadpnnleoaaGreatBin31
import Derived.Test.YtdkeiadpnnleoaaGreatBin32
import Derived.Test.YtdkeiadpnnleoaaGreatBin33
import Derived.Test.YtdkeiadpnnleoaaGreatBin16
import Derived.Test.YtdkeiadpnnleoaaGreatBin34
namespace Go.Proofs.YtdkeiadpnnleoaaGreat.planKeeps
open Go.RowKit
attribute [local irreducible] wpQuiet


set_option linter.unusedSimpArgs false in
set_option linter.unusedVariables false in
set_option maxRecDepth 8000 in
set_option maxHeartbeats 6400000 in
theorem walk (w : World) (m : Msn) (vw vh vr vl : Value) (l : List Int) (hm : MsnAt w.heap.size w m vw vh vr) (hl : IntsAt w.heap.size w vl l) :
    Calls Tryz.prog 6 #[.agg (msnCells m vw vh vr), vl] w fun e w' => e = .returned (.bool true) ∧ Below w.heap.size w w' := by
  have hd := Lib.hid (fun w1 => head35_any w1)
  have ff := fun w1 (B : Below w.heap.size w w1) => few35_any m vw vh vr w1 ((hm.below B).mono B.size)
  have fv := fun w1 (B : Below w.heap.size w w1) => rValid31_any m vw vh vr w1 ((hm.below B).mono B.size)
  have fs := fun w1 (B : Below w.heap.size w w1) hfx => rstops32_any m vw vh vr vl l w1 hfx ((hm.1.below B).mono B.size) ((hl.below B).mono B.size)
  have fk := fun w1 (B : Below w.heap.size w w1) => tkeeps_any m vw vh vr vl l w1 ((hm.below B).mono B.size) ((hl.below B).mono B.size)
  have fi := fun w1 (B : Below w.heap.size w w1) hV hS k hk => lkind_any m vw vh vr vl l w1 ((hm.below B).mono B.size) ((hl.below B).mono B.size) hV hS k hk
  obtain ⟨⟨-, a1, cap1, rfl, -⟩, ⟨-, a2, cap2, rfl, -⟩, ⟨-, a3, cap3, rfl, -⟩⟩ := hm
  obtain ⟨-, al, capl, rfl, -⟩ := hl
  unfold msnCells at *
  replace ff := Lib.hid ff
  replace fv := Lib.hid fv
  replace fs := Lib.hid fs
  replace fk := Lib.hid fk
  replace fi := Lib.hid fi
  have BW := Lib.hid (Below.refl w.heap.size w)
  go_enter Tryz.func6, Tryz.ntmps6
  go_wp2_with fail
  generalize hXX0 : World.alloc w _ = X0
  obtain ⟨q0, hA, hzX0⟩ := box1 hXX0
  clear hXX0
  have BW := Lib.hid hA
  clear hA
  have MB := Lib.hid q0
  clear q0
  clear hzX0
  obtain ⟨c0, c1, c2, c3, c4, c5, c6, c7, c8, c9, c10⟩ := msn_cells (m := m) MB.out
  have ltMB := MB.out.lt
  refine (hd.out X0).mono ?_
  rintro e w1 ⟨rfl, b1⟩
  replace BW := Lib.hid (BW.out.trans (b1.mono BW.out.size))
  have B_X0 := Lib.hid b1
  clear b1
  clear c0 c1 c2 c3 c4 c5 c6 c7 c8 c9 c10 ltMB
  obtain ⟨c0, c1, c2, c3, c4, c5, c6, c7, c8, c9, c10⟩ := msn_cells (m := m) (MB.out.below B_X0.out MB.out.lt)
  have ltMB := (MB.out.below B_X0.out MB.out.lt).lt
  go_wp2_with fail
  refine (ff.out _ BW.out).mono ?_
  rintro e w2 ⟨rfl, b2⟩
  replace BW := Lib.hid (BW.out.trans (b2.mono BW.out.size))
  replace B_X0 := Lib.hid (B_X0.out.trans (b2.mono B_X0.out.size))
  clear b2
  clear c0 c1 c2 c3 c4 c5 c6 c7 c8 c9 c10 ltMB
  obtain ⟨c0, c1, c2, c3, c4, c5, c6, c7, c8, c9, c10⟩ := msn_cells (m := m) (MB.out.below B_X0.out MB.out.lt)
  have ltMB := (MB.out.below B_X0.out MB.out.lt).lt
  cases hfew : fewB m
  · skip
    go_wp2
    go_ret
    exact ⟨rfl, BW.out⟩
  have h8 := few_ways hfew
  clear hfew
  by_cases h60 : 60 < l.length
  · skip
    have d60 : decide ((l.length : Int) > 60) = true := by rw [decide_eq_true_eq]; omega
    go_wp2
    go_ret
    exact ⟨rfl, BW.out⟩
  have d60 : decide ((l.length : Int) > 60) = false := by rw [decide_eq_false_iff_not]; omega
  have n60 : ¬ ((l.length : Int) > 60) := by omega
  go_wp2_with fail
  refine (fv.out _ BW.out).mono ?_
  rintro e w3 ⟨rfl, b3⟩
  replace BW := Lib.hid (BW.out.trans (b3.mono BW.out.size))
  replace B_X0 := Lib.hid (B_X0.out.trans (b3.mono B_X0.out.size))
  clear b3
  clear c0 c1 c2 c3 c4 c5 c6 c7 c8 c9 c10 ltMB
  obtain ⟨c0, c1, c2, c3, c4, c5, c6, c7, c8, c9, c10⟩ := msn_cells (m := m) (MB.out.below B_X0.out MB.out.lt)
  have ltMB := (MB.out.below B_X0.out MB.out.lt).lt
  cases hV : validB m
  · skip
    go_wp2
    go_ret
    exact ⟨rfl, BW.out⟩
  have V := (validB_iff m).1 hV
  have n2 := V.n2
  have gs := Lib.hid (fun w1 B => fs.out w1 B (fun k hk => (wayB_true (waysB_at V.ways hk)).2.2.2.2.1))
  clear V
  go_wp2_with fail
  refine (gs.out _ BW.out).mono ?_
  rintro e w4 ⟨rfl, b4⟩
  replace BW := Lib.hid (BW.out.trans (b4.mono BW.out.size))
  replace B_X0 := Lib.hid (B_X0.out.trans (b4.mono B_X0.out.size))
  clear b4
  clear c0 c1 c2 c3 c4 c5 c6 c7 c8 c9 c10 ltMB
  obtain ⟨c0, c1, c2, c3, c4, c5, c6, c7, c8, c9, c10⟩ := msn_cells (m := m) (MB.out.below B_X0.out MB.out.lt)
  have ltMB := (MB.out.below B_X0.out MB.out.lt).lt
  cases hS : stopsB m l
  · skip
    go_wp2
    go_ret
    exact ⟨rfl, BW.out⟩
  have gi := Lib.hid (fun w1 B k hk => fi.out w1 B hV hS k hk)
  obtain ⟨e1, e2, e3⟩ := kp_of (m := m) (s := l) (by unfold radOkB; rw [hV, hS]; rfl)
  obtain ⟨s1, s2, s3⟩ := lead_spec m l
  replace fk := fk.out
  rw [e1, e2, e3] at fk
  unfold leadV leadK at fk
  clear e1 e2 e3 hV hS fi
  generalize leadN m l = n at *
  obtain ⟨n1, hn1⟩ : ∃ n1, m.ways.length - 1 = n1 := ⟨_, rfl⟩
  have jw : IntKind.i64.wrap ((m.ways.length : Int) - 1) = (n1 : Int) := by rw [show (m.ways.length : Int) - 1 = (n1 : Int) by omega]; exact IntWalk.i64_in _ (by omega)
  rw [hn1] at s1 s3 fk
  have hkn : ∀ k, k < n1 → k + 1 < m.ways.length := fun k h => by omega
  obtain ⟨kv, hkv⟩ : ∃ x, (if n < n1 then kindV m l n else 0) = x := ⟨_, rfl⟩
  rw [hkv] at fk
  replace fk := Lib.hid fk
  have S2 := Lib.hid s2
  have HKN := Lib.hid hkn
  have h0n : decide ((n : Int) < 0) = false := by rw [decide_eq_false_iff_not]; omega
  have hgn : decide ((n : Int) > (n1 : Int)) = false := by rw [decide_eq_false_iff_not]; omega
  have hgn2 : decide (n1 < n) = false := by rw [decide_eq_false_iff_not]; omega
  have n0n : ¬ ((n : Int) < 0) := by omega
  have ngn : ¬ ((n : Int) > (n1 : Int)) := by omega
  have hn8 : n1 ≤ 7 := by omega
  clear s2 hkn hn1
  by_cases hnn : n < n1
  · skip
    have hk0 : (kv == 0) = false := by rw [beq_eq_false_iff_ne, ← hkv, if_pos hnn]; exact s3 hnn
    have hne : ((n : Int) == (n1 : Int)) = false := by rw [beq_eq_false_iff_ne]; omega
    rw [if_pos hnn] at hkv
    have HKV := Lib.hid hkv
    clear hkv s3
    go_wp2_with fail
    refine (fk.out _ BW.out).mono ?_
    rintro e w5 ⟨rfl, b5⟩
    replace BW := Lib.hid (BW.out.trans (b5.mono BW.out.size))
    replace B_X0 := Lib.hid (B_X0.out.trans (b5.mono B_X0.out.size))
    clear b5
    clear c0 c1 c2 c3 c4 c5 c6 c7 c8 c9 c10 ltMB
    obtain ⟨c0, c1, c2, c3, c4, c5, c6, c7, c8, c9, c10⟩ := msn_cells (m := m) (MB.out.below B_X0.out MB.out.lt)
    have ltMB := (MB.out.below B_X0.out MB.out.lt).lt
    have BX := Lib.hid (Below.refl w5.heap.size w5)
    clear fk
    clear c0 c1 c2 c3 c4 c5 c6 c7 c8 c9 c10 ltMB
    have hMB := Lib.hid (MB.out.below B_X0.out MB.out.lt)
    obtain ⟨c0, c1, c2, c3, c4, c5, c6, c7, c8, c9, c10⟩ := msn_cells (m := m) hMB.out
    have ltMB := hMB.out.lt
    go_upto_region 7 with fail
    clear c0 c1 c2 c3 c4 c5 c6 c7 c8 c9 c10
    go_wp2
    go_loopw [5, 9] (fun u i wr => ∃ j : Nat, j ≤ n ∧ u = .bool true ∧ i = .int .i64 (j : Int) ∧ Below w5.heap.size w5 wr) (fun _ i _ => n - (intOf i).toNat)
    case atStart => exact ⟨0, Nat.zero_le _, rfl, rfl, Below.refl _ _⟩
    case round =>
      obtain ⟨j, hj, rfl, rfl, hB⟩ := hrel
      obtain ⟨wo, hwo⟩ : ∃ x, x = wr := ⟨_, rfl⟩
      subst hwo
      have RR := hMB.out.below hB ltMB
      obtain ⟨c0, c1, c2, c3, c4, c5, c6, c7, c8, c9, c10⟩ := msn_cells (m := m) RR
      have ltR := RR.lt
      have BO := Lib.hid (And.intro hB (BW.out.trans (hB.mono BW.out.size)))
      clear hB RR
      by_cases hjn : j < n
      · have g2 := gi.out _ BO.out.2 j (HKN.out j (by omega))
        rw [S2.out j hjn] at g2
        replace g2 := Lib.hid g2
        have hjl : (j : Int) < (n : Int) := by omega
        have djl : decide ((j : Int) < (n : Int)) = true := by rw [decide_eq_true_eq]; omega
        go_wp2_with fail
        refine g2.out.mono ?_
        rintro e w9 ⟨rfl, b9⟩
        have B9 := Lib.hid (BO.out.1.trans (b9.mono BO.out.1.size))
        clear b9 c0 c1 c2 c3 c4 c5 c6 c7 c8 c9 c10
        go_wp2
        go_roundw
        case rel => exact ⟨j + 1, by omega, rfl, by go_num, B9.out⟩
        case measure => simp [intOf]; omega
      · obtain rfl : j = n := by omega
        have djl : decide ((j : Int) < (j : Int)) = false := by simp
        have g2 := gi.out _ BO.out.2 j (HKN.out j (by omega))
        rw [HKV.out] at g2
        replace g2 := Lib.hid g2
        go_wp2_with fail
        refine g2.out.mono ?_
        rintro e w9 ⟨rfl, b9⟩
        have B9 := Lib.hid (BO.out.2.trans (b9.mono BO.out.2.size))
        have hkk : (kv == kv) = true := by simp
        clear b9 c0 c1 c2 c3 c4 c5 c6 c7 c8 c9 c10
        go_wp2
        go_ret
        exact ⟨rfl, B9.out⟩
  · skip
    rw [if_neg hnn] at hkv
    subst hkv
    have hk0 : ((0 : Int) == 0) = true := by simp
    obtain rfl : n = n1 := by omega
    have hne : ((n : Int) == (n : Int)) = true := by simp
    clear s3
    go_wp2_with fail
    refine (fk.out _ BW.out).mono ?_
    rintro e w6 ⟨rfl, b6⟩
    replace BW := Lib.hid (BW.out.trans (b6.mono BW.out.size))
    replace B_X0 := Lib.hid (B_X0.out.trans (b6.mono B_X0.out.size))
    clear b6
    clear c0 c1 c2 c3 c4 c5 c6 c7 c8 c9 c10 ltMB
    obtain ⟨c0, c1, c2, c3, c4, c5, c6, c7, c8, c9, c10⟩ := msn_cells (m := m) (MB.out.below B_X0.out MB.out.lt)
    have ltMB := (MB.out.below B_X0.out MB.out.lt).lt
    have BX := Lib.hid (Below.refl w6.heap.size w6)
    clear fk
    clear c0 c1 c2 c3 c4 c5 c6 c7 c8 c9 c10 ltMB
    have hMB := Lib.hid (MB.out.below B_X0.out MB.out.lt)
    obtain ⟨c0, c1, c2, c3, c4, c5, c6, c7, c8, c9, c10⟩ := msn_cells (m := m) hMB.out
    have ltMB := hMB.out.lt
    go_upto_region 7 with fail
    clear c0 c1 c2 c3 c4 c5 c6 c7 c8 c9 c10
    go_wp2
    go_loopw [5, 9] (fun u i wr => ∃ j : Nat, j ≤ n ∧ u = .bool true ∧ i = .int .i64 (j : Int) ∧ Below w6.heap.size w6 wr) (fun _ i _ => n - (intOf i).toNat)
    case atStart => exact ⟨0, Nat.zero_le _, rfl, rfl, Below.refl _ _⟩
    case round =>
      obtain ⟨j, hj, rfl, rfl, hB⟩ := hrel
      obtain ⟨wo, hwo⟩ : ∃ x, x = wr := ⟨_, rfl⟩
      subst hwo
      have RR := hMB.out.below hB ltMB
      obtain ⟨c0, c1, c2, c3, c4, c5, c6, c7, c8, c9, c10⟩ := msn_cells (m := m) RR
      have ltR := RR.lt
      have BO := Lib.hid (And.intro hB (BW.out.trans (hB.mono BW.out.size)))
      clear hB RR
      by_cases hjn : j < n
      · have g2 := gi.out _ BO.out.2 j (HKN.out j (by omega))
        rw [S2.out j hjn] at g2
        replace g2 := Lib.hid g2
        have hjl : (j : Int) < (n : Int) := by omega
        have djl : decide ((j : Int) < (n : Int)) = true := by rw [decide_eq_true_eq]; omega
        go_wp2_with fail
        refine g2.out.mono ?_
        rintro e w9 ⟨rfl, b9⟩
        have B9 := Lib.hid (BO.out.1.trans (b9.mono BO.out.1.size))
        clear b9 c0 c1 c2 c3 c4 c5 c6 c7 c8 c9 c10
        go_wp2
        go_roundw
        case rel => exact ⟨j + 1, by omega, rfl, by go_num, B9.out⟩
        case measure => simp [intOf]; omega
      · obtain rfl : j = n := by omega
        have djl : decide ((j : Int) < (j : Int)) = false := by simp
        go_wp2
        go_ret
        exact ⟨rfl, BO.out.2⟩
end Go.Proofs.YtdkeiadpnnleoaaGreat.planKeeps
