/- package plan: trip.kind. | package plan: Keeps. | package plan: fixes. -/
import Derived.Test.YtdkeiadpnnleoaaGreatBin29
namespace Go.Proofs.YtdkeiadpnnleoaaGreat
open Go.RowKit
attribute [local irreducible] wpQuiet

theorem kind_val (m : Msn) (l : List Int) (k : Nat) : kindV m l k = if clrB m k (rdA m l k) (k + 1) (rdB m l (k + 1)) = false then 1 else if bkC m (k + 1) (rdB m l (k + 1)) (dep m (k + 1)) = false then 5 else if lieB m (bkR m (k + 1) (rdB m l (k + 1)) (dep m (k + 1))) = false then 2 else if decide (usE m l (k + 1) + homeE m (k + 1) (dep m (k + 1)) ≤ m.battery) = false then 3 else if decide (usT m l (k + 1) + homeT m (k + 1) (dep m (k + 1)) ≤ m.deadline) = false then 4 else 0 := by
  unfold kindV
  simp only [decide_eq_false_iff_not, Int.not_le, gt_iff_lt]
set_option linter.unusedSimpArgs false in
set_option linter.unusedVariables false in
set_option maxRecDepth 8000 in
set_option maxHeartbeats 6400000 in
theorem tkind_any (m : Msn) (l : List Int) (vw vh vr vb va vt ve : Value) (w : World) (T : TripAt w.heap.size w m l vw vh vr vb va vt ve) (V : VMsn m) (k : Nat) (hk : k + 1 < m.ways.length) :
    Calls Tryz.prog 84 #[.agg (tripCells m vw vh vr vb va vt ve), .int .i64 k] w fun e w' => e = .returned (.int .i64 (kindV m l k)) ∧ Below w.heap.size w w' := by
  have n41 := V.n41
  have hV := (validB_iff m).2 V
  rw [kind_val]
  have fb := fun w1 (B : Below w.heap.size w w1) => tback_any m l vw vh vr vb va vt ve w1 (T.up B) V (k + 1) hk
  have fh := fun w1 (B : Below w.heap.size w w1) => phome_yes m vw vh vr (k + 1) w1 (T.up B).msn hV hk
  have f1 := fun w1 (B : Below w.heap.size w w1) => kcl_any m l vw vh vr vb va vt ve w1 (T.up B) k hk n41
  have f2 := fun w1 c Bc => kbk_any w1 c Bc
  have f3 := fun w1 (B : Below w.heap.size w w1) r hr => kin_any m l vw vh vr vb va vt ve w1 (T.up B) V r hr
  have f4 := fun w1 (B : Below w.heap.size w w1) x hx => kba_any m l vw vh vr vb va vt ve w1 (T.up B) V (k + 1) hk x hx
  have f5 := fun w1 (B : Below w.heap.size w w1) x hx => kti_any m l vw vh vr vb va vt ve w1 (T.up B) V (k + 1) hk x hx
  have hrb := bk_bd V l hk (Nat.le_refl _)
  have hte := homeTE_bd V hk _ (Nat.le_refl _)
  have hdp := dep_le V.ways hk
  obtain ⟨K, hK⟩ : ∃ K, k + 1 = K := ⟨_, rfl⟩
  have jw : IntKind.i64.wrap ((k : Int) + 1) = (K : Int) := by rw [← hK]; exact IntWalk.i64_in _ (by omega)
  simp only [hK] at fb fh f1 f4 f5 hrb hte hdp ⊢
  replace hte : (0 ≤ homeT m K (dep m K) ∧ homeT m K (dep m K) ≤ 100000000000000) ∧ 0 ≤ homeE m K (dep m K) ∧ homeE m K (dep m K) ≤ 100000000000000 := by
    have : ((dep m K : Nat) : Int) ≤ 41 := by omega
    omega
  generalize homeT m K (dep m K) = hT' at *
  generalize homeE m K (dep m K) = hE' at *
  replace f4 := fun w1 B => f4 w1 B hE' hte.2
  replace f5 := fun w1 B => f5 w1 B hT' hte.1
  generalize bkR m K (rdB m l K) (dep m K) = rr at *
  generalize bkC m K (rdB m l K) (dep m K) = bb at *
  generalize clrB m k (rdA m l k) K (rdB m l K) = ba at *
  generalize decide (usE m l K + hE' ≤ m.battery) = bd at *
  generalize decide (usT m l K + hT' ≤ m.deadline) = be at *
  obtain ⟨⟨-, a1, c1, rfl, hcw⟩, ⟨-, a2, c2, rfl, -⟩, ⟨-, a3, c3, rfl, -⟩⟩ := T.msn
  obtain ⟨-, ab, cb, rfl, -⟩ := T.bef
  obtain ⟨-, aa, ca, rfl, -⟩ := T.aft
  obtain ⟨-, at', ct, rfl, -⟩ := T.tim
  obtain ⟨-, ae, ce, rfl, -⟩ := T.ene
  unfold tripCells msnCells at *
  replace fb := Lib.hid fb
  replace fh := Lib.hid fh
  replace f1 := Lib.hid f1
  replace f2 := Lib.hid f2
  replace f3 := Lib.hid (fun w1 B => f3 w1 B rr hrb)
  replace f4 := Lib.hid f4
  replace f5 := Lib.hid f5
  generalize lieB m rr = bc at *
  clear T hcw V hV hrb hte hdp hK
  have BW := Lib.hid (Below.refl w.heap.size w)
  go_enter Tryz.func84, Tryz.ntmps84
  go_wp2_with fail
  generalize hXX0 : World.alloc (World.alloc (World.alloc w _) _) _ = X0
  obtain ⟨q0, q1, q2, hA, hzX0⟩ := box3 hXX0
  clear hXX0
  have BW := Lib.hid hA
  clear hA
  have TB := Lib.hid q0
  clear q0
  have LB := Lib.hid q1
  clear q1
  have EB := Lib.hid q2
  clear q2
  have c0 := TB.out.cell (i := 0) rfl
  have c1 := TB.out.cell (i := 1) rfl
  have c2 := TB.out.cell (i := 2) rfl
  have c3 := TB.out.cell (i := 3) rfl
  have c4 := TB.out.cell (i := 4) rfl
  have c5 := TB.out.cell (i := 5) rfl
  have c6 := TB.out.cell (i := 6) rfl
  have c7 := TB.out.cell (i := 7) rfl
  have c8 := TB.out.cell (i := 8) rfl
  have c9 := TB.out.cell (i := 9) rfl
  have c10 := TB.out.cell (i := 10) rfl
  have c11 := TB.out.cell (i := 11) rfl
  have c12 := TB.out.cell (i := 12) rfl
  have c13 := TB.out.cell (i := 13) rfl
  have c14 := TB.out.cell (i := 14) rfl
  have ltTB := TB.out.lt
  have d0 := EB.out.cell (i := 0) rfl
  have ltEB := EB.out.lt
  refine (fb.out _ BW.out).mono ?_
  rintro e w1 ⟨rfl, b1⟩
  replace BW := Lib.hid (BW.out.trans (b1.mono BW.out.size))
  have B_X0 := Lib.hid b1
  clear b1
  clear c0 c1 c2 c3 c4 c5 c6 c7 c8 c9 c10 c11 c12 c13 c14 ltTB d0 ltEB
  have c0 := (TB.out.below B_X0.out TB.out.lt).cell (i := 0) rfl
  have c1 := (TB.out.below B_X0.out TB.out.lt).cell (i := 1) rfl
  have c2 := (TB.out.below B_X0.out TB.out.lt).cell (i := 2) rfl
  have c3 := (TB.out.below B_X0.out TB.out.lt).cell (i := 3) rfl
  have c4 := (TB.out.below B_X0.out TB.out.lt).cell (i := 4) rfl
  have c5 := (TB.out.below B_X0.out TB.out.lt).cell (i := 5) rfl
  have c6 := (TB.out.below B_X0.out TB.out.lt).cell (i := 6) rfl
  have c7 := (TB.out.below B_X0.out TB.out.lt).cell (i := 7) rfl
  have c8 := (TB.out.below B_X0.out TB.out.lt).cell (i := 8) rfl
  have c9 := (TB.out.below B_X0.out TB.out.lt).cell (i := 9) rfl
  have c10 := (TB.out.below B_X0.out TB.out.lt).cell (i := 10) rfl
  have c11 := (TB.out.below B_X0.out TB.out.lt).cell (i := 11) rfl
  have c12 := (TB.out.below B_X0.out TB.out.lt).cell (i := 12) rfl
  have c13 := (TB.out.below B_X0.out TB.out.lt).cell (i := 13) rfl
  have c14 := (TB.out.below B_X0.out TB.out.lt).cell (i := 14) rfl
  have ltTB := (TB.out.below B_X0.out TB.out.lt).lt
  have d0 := (EB.out.below B_X0.out EB.out.lt).cell (i := 0) rfl
  have ltEB := (EB.out.below B_X0.out EB.out.lt).lt
  go_upto_region 3 with fail
  generalize hXX1 : World.alloc (World.alloc w1 _) _ = X1
  obtain ⟨q0, q1, hA, hzX1⟩ := box2 hXX1
  clear hXX1
  replace BW := Lib.hid (BW.out.trans (hA.mono BW.out.size))
  replace B_X0 := Lib.hid (B_X0.out.trans (hA.mono B_X0.out.size))
  clear hA
  have CB := Lib.hid q0
  clear q0
  have RB := Lib.hid q1
  clear q1
  clear c0 c1 c2 c3 c4 c5 c6 c7 c8 c9 c10 c11 c12 c13 c14 ltTB d0 ltEB
  have c0 := (TB.out.below B_X0.out TB.out.lt).cell (i := 0) rfl
  have c1 := (TB.out.below B_X0.out TB.out.lt).cell (i := 1) rfl
  have c2 := (TB.out.below B_X0.out TB.out.lt).cell (i := 2) rfl
  have c3 := (TB.out.below B_X0.out TB.out.lt).cell (i := 3) rfl
  have c4 := (TB.out.below B_X0.out TB.out.lt).cell (i := 4) rfl
  have c5 := (TB.out.below B_X0.out TB.out.lt).cell (i := 5) rfl
  have c6 := (TB.out.below B_X0.out TB.out.lt).cell (i := 6) rfl
  have c7 := (TB.out.below B_X0.out TB.out.lt).cell (i := 7) rfl
  have c8 := (TB.out.below B_X0.out TB.out.lt).cell (i := 8) rfl
  have c9 := (TB.out.below B_X0.out TB.out.lt).cell (i := 9) rfl
  have c10 := (TB.out.below B_X0.out TB.out.lt).cell (i := 10) rfl
  have c11 := (TB.out.below B_X0.out TB.out.lt).cell (i := 11) rfl
  have c12 := (TB.out.below B_X0.out TB.out.lt).cell (i := 12) rfl
  have c13 := (TB.out.below B_X0.out TB.out.lt).cell (i := 13) rfl
  have c14 := (TB.out.below B_X0.out TB.out.lt).cell (i := 14) rfl
  have ltTB := (TB.out.below B_X0.out TB.out.lt).lt
  have d0 := (EB.out.below B_X0.out EB.out.lt).cell (i := 0) rfl
  have ltEB := (EB.out.below B_X0.out EB.out.lt).lt
  go_wp2_with fail
  refine (fh.out _ BW.out).mono ?_
  rintro e w2 ⟨rfl, b2⟩
  replace BW := Lib.hid (BW.out.trans (b2.mono BW.out.size))
  replace B_X0 := Lib.hid (B_X0.out.trans (b2.mono B_X0.out.size))
  have B_X1 := Lib.hid b2
  clear b2
  clear c0 c1 c2 c3 c4 c5 c6 c7 c8 c9 c10 c11 c12 c13 c14 ltTB d0 ltEB
  have c0 := (TB.out.below B_X0.out TB.out.lt).cell (i := 0) rfl
  have c1 := (TB.out.below B_X0.out TB.out.lt).cell (i := 1) rfl
  have c2 := (TB.out.below B_X0.out TB.out.lt).cell (i := 2) rfl
  have c3 := (TB.out.below B_X0.out TB.out.lt).cell (i := 3) rfl
  have c4 := (TB.out.below B_X0.out TB.out.lt).cell (i := 4) rfl
  have c5 := (TB.out.below B_X0.out TB.out.lt).cell (i := 5) rfl
  have c6 := (TB.out.below B_X0.out TB.out.lt).cell (i := 6) rfl
  have c7 := (TB.out.below B_X0.out TB.out.lt).cell (i := 7) rfl
  have c8 := (TB.out.below B_X0.out TB.out.lt).cell (i := 8) rfl
  have c9 := (TB.out.below B_X0.out TB.out.lt).cell (i := 9) rfl
  have c10 := (TB.out.below B_X0.out TB.out.lt).cell (i := 10) rfl
  have c11 := (TB.out.below B_X0.out TB.out.lt).cell (i := 11) rfl
  have c12 := (TB.out.below B_X0.out TB.out.lt).cell (i := 12) rfl
  have c13 := (TB.out.below B_X0.out TB.out.lt).cell (i := 13) rfl
  have c14 := (TB.out.below B_X0.out TB.out.lt).cell (i := 14) rfl
  have ltTB := (TB.out.below B_X0.out TB.out.lt).lt
  have d0 := (EB.out.below B_X0.out EB.out.lt).cell (i := 0) rfl
  have ltEB := (EB.out.below B_X0.out EB.out.lt).lt
  clear c0 c1 c2 c3 c4 c5 c6 c7 c8 c9 c10 c11 c12 c13 c14 ltTB d0 ltEB
  go_wp2
  generalize hXX2 : World.alloc (World.alloc (World.alloc w2 _) _) _ = X2
  obtain ⟨q0, q1, q2, hA, hzX2⟩ := box3 hXX2
  clear hXX2
  replace BW := Lib.hid (BW.out.trans (hA.mono BW.out.size))
  replace B_X0 := Lib.hid (B_X0.out.trans (hA.mono B_X0.out.size))
  replace B_X1 := Lib.hid (B_X1.out.trans (hA.mono B_X1.out.size))
  clear hA
  have LS := Lib.hid q0
  clear q0
  have EN := Lib.hid q1
  clear q1
  have SL := Lib.hid q2
  clear q2
  clear hzX2
  refine wp_loop_rounds 6 ?_
  have s0 : X2.cell? ⟨w2.heap.size + 1 + 1, 0, none⟩ = some (.int .i64 1) := SL.out.cell (i := 0) rfl
  have s1 : X2.cell? ⟨w2.heap.size + 1 + 1, 1, none⟩ = some (.func (.func 161) #[] #[.pointer (some ⟨w.heap.size, 0, none⟩), .pointer (some ⟨w.heap.size + 1, 0, none⟩), .pointer (some ⟨w.heap.size + 1 + 1, 0, none⟩)]) := SL.out.cell (i := 1) rfl
  have s2 : X2.cell? ⟨w2.heap.size + 1 + 1, 2, none⟩ = some (.int .i64 5) := SL.out.cell (i := 2) rfl
  have s3 : X2.cell? ⟨w2.heap.size + 1 + 1, 3, none⟩ = some (.func (.func 163) #[] #[.pointer (some ⟨w1.heap.size, 0, none⟩)]) := SL.out.cell (i := 3) rfl
  have s4 : X2.cell? ⟨w2.heap.size + 1 + 1, 4, none⟩ = some (.int .i64 2) := SL.out.cell (i := 4) rfl
  have s5 : X2.cell? ⟨w2.heap.size + 1 + 1, 5, none⟩ = some (.func (.func 160) #[] #[.pointer (some ⟨w1.heap.size + 1, 0, none⟩), .pointer (some ⟨w.heap.size, 0, none⟩)]) := SL.out.cell (i := 5) rfl
  have s6 : X2.cell? ⟨w2.heap.size + 1 + 1, 6, none⟩ = some (.int .i64 3) := SL.out.cell (i := 6) rfl
  have s7 : X2.cell? ⟨w2.heap.size + 1 + 1, 7, none⟩ = some (.func (.func 164) #[] #[.pointer (some ⟨w.heap.size, 0, none⟩), .pointer (some ⟨w.heap.size + 1 + 1, 0, none⟩), .pointer (some ⟨w2.heap.size + 1, 0, none⟩)]) := SL.out.cell (i := 7) rfl
  have s8 : X2.cell? ⟨w2.heap.size + 1 + 1, 8, none⟩ = some (.int .i64 4) := SL.out.cell (i := 8) rfl
  have s9 : X2.cell? ⟨w2.heap.size + 1 + 1, 9, none⟩ = some (.func (.func 165) #[] #[.pointer (some ⟨w.heap.size, 0, none⟩), .pointer (some ⟨w.heap.size + 1 + 1, 0, none⟩), .pointer (some ⟨w2.heap.size, 0, none⟩)]) := SL.out.cell (i := 9) rfl
  have ltSL := SL.out.lt
  rw [rounds_succ]
  go_wp2_with fail
  generalize hXY0 : World.alloc X2 _ = Y0
  obtain ⟨q0, hA, hzY0⟩ := box1 hXY0
  clear hXY0
  replace BW := Lib.hid (BW.out.trans (hA.mono BW.out.size))
  replace B_X0 := Lib.hid (B_X0.out.trans (hA.mono B_X0.out.size))
  replace B_X1 := Lib.hid (B_X1.out.trans (hA.mono B_X1.out.size))
  have B_X2 := Lib.hid hA
  clear hA
  have XB0 := Lib.hid q0
  clear q0
  clear hzY0
  clear s0 s1 s2 s3 s4 s5 s6 s7 s8 s9 ltSL
  have s0 : Y0.cell? ⟨w2.heap.size + 1 + 1, 0, none⟩ = some (.int .i64 1) := (SL.out.below B_X2.out SL.out.lt).cell (i := 0) rfl
  have s1 : Y0.cell? ⟨w2.heap.size + 1 + 1, 1, none⟩ = some (.func (.func 161) #[] #[.pointer (some ⟨w.heap.size, 0, none⟩), .pointer (some ⟨w.heap.size + 1, 0, none⟩), .pointer (some ⟨w.heap.size + 1 + 1, 0, none⟩)]) := (SL.out.below B_X2.out SL.out.lt).cell (i := 1) rfl
  have s2 : Y0.cell? ⟨w2.heap.size + 1 + 1, 2, none⟩ = some (.int .i64 5) := (SL.out.below B_X2.out SL.out.lt).cell (i := 2) rfl
  have s3 : Y0.cell? ⟨w2.heap.size + 1 + 1, 3, none⟩ = some (.func (.func 163) #[] #[.pointer (some ⟨w1.heap.size, 0, none⟩)]) := (SL.out.below B_X2.out SL.out.lt).cell (i := 3) rfl
  have s4 : Y0.cell? ⟨w2.heap.size + 1 + 1, 4, none⟩ = some (.int .i64 2) := (SL.out.below B_X2.out SL.out.lt).cell (i := 4) rfl
  have s5 : Y0.cell? ⟨w2.heap.size + 1 + 1, 5, none⟩ = some (.func (.func 160) #[] #[.pointer (some ⟨w1.heap.size + 1, 0, none⟩), .pointer (some ⟨w.heap.size, 0, none⟩)]) := (SL.out.below B_X2.out SL.out.lt).cell (i := 5) rfl
  have s6 : Y0.cell? ⟨w2.heap.size + 1 + 1, 6, none⟩ = some (.int .i64 3) := (SL.out.below B_X2.out SL.out.lt).cell (i := 6) rfl
  have s7 : Y0.cell? ⟨w2.heap.size + 1 + 1, 7, none⟩ = some (.func (.func 164) #[] #[.pointer (some ⟨w.heap.size, 0, none⟩), .pointer (some ⟨w.heap.size + 1 + 1, 0, none⟩), .pointer (some ⟨w2.heap.size + 1, 0, none⟩)]) := (SL.out.below B_X2.out SL.out.lt).cell (i := 7) rfl
  have s8 : Y0.cell? ⟨w2.heap.size + 1 + 1, 8, none⟩ = some (.int .i64 4) := (SL.out.below B_X2.out SL.out.lt).cell (i := 8) rfl
  have s9 : Y0.cell? ⟨w2.heap.size + 1 + 1, 9, none⟩ = some (.func (.func 165) #[] #[.pointer (some ⟨w.heap.size, 0, none⟩), .pointer (some ⟨w.heap.size + 1 + 1, 0, none⟩), .pointer (some ⟨w2.heap.size, 0, none⟩)]) := (SL.out.below B_X2.out SL.out.lt).cell (i := 9) rfl
  have ltSL := (SL.out.below B_X2.out SL.out.lt).lt
  have x0 : Y0.cell? ⟨X2.heap.size, 0, none⟩ = some (.int .i64 1) := XB0.out.cell (i := 0) rfl
  have x1 : Y0.cell? ⟨X2.heap.size, 1, none⟩ = some (.func (.func 161) #[] #[.pointer (some ⟨w.heap.size, 0, none⟩), .pointer (some ⟨w.heap.size + 1, 0, none⟩), .pointer (some ⟨w.heap.size + 1 + 1, 0, none⟩)]) := XB0.out.cell (i := 1) rfl
  have ltXB0 := XB0.out.lt
  go_wp2_with fail
  refine (f1.out _ BW.out _ _ _ (TB.out.below B_X0.out TB.out.lt) (LB.out.below B_X0.out LB.out.lt) (EB.out.below B_X0.out EB.out.lt)).mono ?_
  rintro e w3 ⟨rfl, b3⟩
  replace BW := Lib.hid (BW.out.trans (b3.mono BW.out.size))
  replace B_X0 := Lib.hid (B_X0.out.trans (b3.mono B_X0.out.size))
  replace B_X1 := Lib.hid (B_X1.out.trans (b3.mono B_X1.out.size))
  replace B_X2 := Lib.hid (B_X2.out.trans (b3.mono B_X2.out.size))
  have B_Y0 := Lib.hid b3
  clear b3
  clear s0 s1 s2 s3 s4 s5 s6 s7 s8 s9 ltSL x0 x1 ltXB0
  have s0 : w3.cell? ⟨w2.heap.size + 1 + 1, 0, none⟩ = some (.int .i64 1) := (SL.out.below B_X2.out SL.out.lt).cell (i := 0) rfl
  have s1 : w3.cell? ⟨w2.heap.size + 1 + 1, 1, none⟩ = some (.func (.func 161) #[] #[.pointer (some ⟨w.heap.size, 0, none⟩), .pointer (some ⟨w.heap.size + 1, 0, none⟩), .pointer (some ⟨w.heap.size + 1 + 1, 0, none⟩)]) := (SL.out.below B_X2.out SL.out.lt).cell (i := 1) rfl
  have s2 : w3.cell? ⟨w2.heap.size + 1 + 1, 2, none⟩ = some (.int .i64 5) := (SL.out.below B_X2.out SL.out.lt).cell (i := 2) rfl
  have s3 : w3.cell? ⟨w2.heap.size + 1 + 1, 3, none⟩ = some (.func (.func 163) #[] #[.pointer (some ⟨w1.heap.size, 0, none⟩)]) := (SL.out.below B_X2.out SL.out.lt).cell (i := 3) rfl
  have s4 : w3.cell? ⟨w2.heap.size + 1 + 1, 4, none⟩ = some (.int .i64 2) := (SL.out.below B_X2.out SL.out.lt).cell (i := 4) rfl
  have s5 : w3.cell? ⟨w2.heap.size + 1 + 1, 5, none⟩ = some (.func (.func 160) #[] #[.pointer (some ⟨w1.heap.size + 1, 0, none⟩), .pointer (some ⟨w.heap.size, 0, none⟩)]) := (SL.out.below B_X2.out SL.out.lt).cell (i := 5) rfl
  have s6 : w3.cell? ⟨w2.heap.size + 1 + 1, 6, none⟩ = some (.int .i64 3) := (SL.out.below B_X2.out SL.out.lt).cell (i := 6) rfl
  have s7 : w3.cell? ⟨w2.heap.size + 1 + 1, 7, none⟩ = some (.func (.func 164) #[] #[.pointer (some ⟨w.heap.size, 0, none⟩), .pointer (some ⟨w.heap.size + 1 + 1, 0, none⟩), .pointer (some ⟨w2.heap.size + 1, 0, none⟩)]) := (SL.out.below B_X2.out SL.out.lt).cell (i := 7) rfl
  have s8 : w3.cell? ⟨w2.heap.size + 1 + 1, 8, none⟩ = some (.int .i64 4) := (SL.out.below B_X2.out SL.out.lt).cell (i := 8) rfl
  have s9 : w3.cell? ⟨w2.heap.size + 1 + 1, 9, none⟩ = some (.func (.func 165) #[] #[.pointer (some ⟨w.heap.size, 0, none⟩), .pointer (some ⟨w.heap.size + 1 + 1, 0, none⟩), .pointer (some ⟨w2.heap.size, 0, none⟩)]) := (SL.out.below B_X2.out SL.out.lt).cell (i := 9) rfl
  have ltSL := (SL.out.below B_X2.out SL.out.lt).lt
  have x0 : w3.cell? ⟨X2.heap.size, 0, none⟩ = some (.int .i64 1) := (XB0.out.below B_Y0.out XB0.out.lt).cell (i := 0) rfl
  have x1 : w3.cell? ⟨X2.heap.size, 1, none⟩ = some (.func (.func 161) #[] #[.pointer (some ⟨w.heap.size, 0, none⟩), .pointer (some ⟨w.heap.size + 1, 0, none⟩), .pointer (some ⟨w.heap.size + 1 + 1, 0, none⟩)]) := (XB0.out.below B_Y0.out XB0.out.lt).cell (i := 1) rfl
  have ltXB0 := (XB0.out.below B_Y0.out XB0.out.lt).lt
  cases ba
  · go_wp2
    go_ret
    exact ⟨by simp, BW.out⟩
  go_wp2
  clear s0 s1 s2 s3 s4 s5 s6 s7 s8 s9 ltSL x0 x1 ltXB0
  clear XB0
  have s0 : w3.cell? ⟨w2.heap.size + 1 + 1, 0, none⟩ = some (.int .i64 1) := (SL.out.below B_X2.out SL.out.lt).cell (i := 0) rfl
  have s1 : w3.cell? ⟨w2.heap.size + 1 + 1, 1, none⟩ = some (.func (.func 161) #[] #[.pointer (some ⟨w.heap.size, 0, none⟩), .pointer (some ⟨w.heap.size + 1, 0, none⟩), .pointer (some ⟨w.heap.size + 1 + 1, 0, none⟩)]) := (SL.out.below B_X2.out SL.out.lt).cell (i := 1) rfl
  have s2 : w3.cell? ⟨w2.heap.size + 1 + 1, 2, none⟩ = some (.int .i64 5) := (SL.out.below B_X2.out SL.out.lt).cell (i := 2) rfl
  have s3 : w3.cell? ⟨w2.heap.size + 1 + 1, 3, none⟩ = some (.func (.func 163) #[] #[.pointer (some ⟨w1.heap.size, 0, none⟩)]) := (SL.out.below B_X2.out SL.out.lt).cell (i := 3) rfl
  have s4 : w3.cell? ⟨w2.heap.size + 1 + 1, 4, none⟩ = some (.int .i64 2) := (SL.out.below B_X2.out SL.out.lt).cell (i := 4) rfl
  have s5 : w3.cell? ⟨w2.heap.size + 1 + 1, 5, none⟩ = some (.func (.func 160) #[] #[.pointer (some ⟨w1.heap.size + 1, 0, none⟩), .pointer (some ⟨w.heap.size, 0, none⟩)]) := (SL.out.below B_X2.out SL.out.lt).cell (i := 5) rfl
  have s6 : w3.cell? ⟨w2.heap.size + 1 + 1, 6, none⟩ = some (.int .i64 3) := (SL.out.below B_X2.out SL.out.lt).cell (i := 6) rfl
  have s7 : w3.cell? ⟨w2.heap.size + 1 + 1, 7, none⟩ = some (.func (.func 164) #[] #[.pointer (some ⟨w.heap.size, 0, none⟩), .pointer (some ⟨w.heap.size + 1 + 1, 0, none⟩), .pointer (some ⟨w2.heap.size + 1, 0, none⟩)]) := (SL.out.below B_X2.out SL.out.lt).cell (i := 7) rfl
  have s8 : w3.cell? ⟨w2.heap.size + 1 + 1, 8, none⟩ = some (.int .i64 4) := (SL.out.below B_X2.out SL.out.lt).cell (i := 8) rfl
  have s9 : w3.cell? ⟨w2.heap.size + 1 + 1, 9, none⟩ = some (.func (.func 165) #[] #[.pointer (some ⟨w.heap.size, 0, none⟩), .pointer (some ⟨w.heap.size + 1 + 1, 0, none⟩), .pointer (some ⟨w2.heap.size, 0, none⟩)]) := (SL.out.below B_X2.out SL.out.lt).cell (i := 9) rfl
  have ltSL := (SL.out.below B_X2.out SL.out.lt).lt
  rw [rounds_succ]
  go_wp2_with fail
  generalize hXY1 : World.alloc w3 _ = Y1
  obtain ⟨q0, hA, hzY1⟩ := box1 hXY1
  clear hXY1
  replace BW := Lib.hid (BW.out.trans (hA.mono BW.out.size))
  replace B_X0 := Lib.hid (B_X0.out.trans (hA.mono B_X0.out.size))
  replace B_X1 := Lib.hid (B_X1.out.trans (hA.mono B_X1.out.size))
  replace B_X2 := Lib.hid (B_X2.out.trans (hA.mono B_X2.out.size))
  replace B_Y0 := Lib.hid (B_Y0.out.trans (hA.mono B_Y0.out.size))
  clear hA
  have XB1 := Lib.hid q0
  clear q0
  clear hzY1
  clear s0 s1 s2 s3 s4 s5 s6 s7 s8 s9 ltSL
  have s0 : Y1.cell? ⟨w2.heap.size + 1 + 1, 0, none⟩ = some (.int .i64 1) := (SL.out.below B_X2.out SL.out.lt).cell (i := 0) rfl
  have s1 : Y1.cell? ⟨w2.heap.size + 1 + 1, 1, none⟩ = some (.func (.func 161) #[] #[.pointer (some ⟨w.heap.size, 0, none⟩), .pointer (some ⟨w.heap.size + 1, 0, none⟩), .pointer (some ⟨w.heap.size + 1 + 1, 0, none⟩)]) := (SL.out.below B_X2.out SL.out.lt).cell (i := 1) rfl
  have s2 : Y1.cell? ⟨w2.heap.size + 1 + 1, 2, none⟩ = some (.int .i64 5) := (SL.out.below B_X2.out SL.out.lt).cell (i := 2) rfl
  have s3 : Y1.cell? ⟨w2.heap.size + 1 + 1, 3, none⟩ = some (.func (.func 163) #[] #[.pointer (some ⟨w1.heap.size, 0, none⟩)]) := (SL.out.below B_X2.out SL.out.lt).cell (i := 3) rfl
  have s4 : Y1.cell? ⟨w2.heap.size + 1 + 1, 4, none⟩ = some (.int .i64 2) := (SL.out.below B_X2.out SL.out.lt).cell (i := 4) rfl
  have s5 : Y1.cell? ⟨w2.heap.size + 1 + 1, 5, none⟩ = some (.func (.func 160) #[] #[.pointer (some ⟨w1.heap.size + 1, 0, none⟩), .pointer (some ⟨w.heap.size, 0, none⟩)]) := (SL.out.below B_X2.out SL.out.lt).cell (i := 5) rfl
  have s6 : Y1.cell? ⟨w2.heap.size + 1 + 1, 6, none⟩ = some (.int .i64 3) := (SL.out.below B_X2.out SL.out.lt).cell (i := 6) rfl
  have s7 : Y1.cell? ⟨w2.heap.size + 1 + 1, 7, none⟩ = some (.func (.func 164) #[] #[.pointer (some ⟨w.heap.size, 0, none⟩), .pointer (some ⟨w.heap.size + 1 + 1, 0, none⟩), .pointer (some ⟨w2.heap.size + 1, 0, none⟩)]) := (SL.out.below B_X2.out SL.out.lt).cell (i := 7) rfl
  have s8 : Y1.cell? ⟨w2.heap.size + 1 + 1, 8, none⟩ = some (.int .i64 4) := (SL.out.below B_X2.out SL.out.lt).cell (i := 8) rfl
  have s9 : Y1.cell? ⟨w2.heap.size + 1 + 1, 9, none⟩ = some (.func (.func 165) #[] #[.pointer (some ⟨w.heap.size, 0, none⟩), .pointer (some ⟨w.heap.size + 1 + 1, 0, none⟩), .pointer (some ⟨w2.heap.size, 0, none⟩)]) := (SL.out.below B_X2.out SL.out.lt).cell (i := 9) rfl
  have ltSL := (SL.out.below B_X2.out SL.out.lt).lt
  have x0 : Y1.cell? ⟨w3.heap.size, 0, none⟩ = some (.int .i64 5) := XB1.out.cell (i := 0) rfl
  have x1 : Y1.cell? ⟨w3.heap.size, 1, none⟩ = some (.func (.func 163) #[] #[.pointer (some ⟨w1.heap.size, 0, none⟩)]) := XB1.out.cell (i := 1) rfl
  have ltXB1 := XB1.out.lt
  go_wp2_with fail
  refine (f2.out _ bb _ (CB.out.below B_X1.out CB.out.lt)).mono ?_
  rintro e w4 ⟨rfl, b4⟩
  replace BW := Lib.hid (BW.out.trans (b4.mono BW.out.size))
  replace B_X0 := Lib.hid (B_X0.out.trans (b4.mono B_X0.out.size))
  replace B_X1 := Lib.hid (B_X1.out.trans (b4.mono B_X1.out.size))
  replace B_X2 := Lib.hid (B_X2.out.trans (b4.mono B_X2.out.size))
  replace B_Y0 := Lib.hid (B_Y0.out.trans (b4.mono B_Y0.out.size))
  have B_Y1 := Lib.hid b4
  clear b4
  clear s0 s1 s2 s3 s4 s5 s6 s7 s8 s9 ltSL x0 x1 ltXB1
  have s0 : w4.cell? ⟨w2.heap.size + 1 + 1, 0, none⟩ = some (.int .i64 1) := (SL.out.below B_X2.out SL.out.lt).cell (i := 0) rfl
  have s1 : w4.cell? ⟨w2.heap.size + 1 + 1, 1, none⟩ = some (.func (.func 161) #[] #[.pointer (some ⟨w.heap.size, 0, none⟩), .pointer (some ⟨w.heap.size + 1, 0, none⟩), .pointer (some ⟨w.heap.size + 1 + 1, 0, none⟩)]) := (SL.out.below B_X2.out SL.out.lt).cell (i := 1) rfl
  have s2 : w4.cell? ⟨w2.heap.size + 1 + 1, 2, none⟩ = some (.int .i64 5) := (SL.out.below B_X2.out SL.out.lt).cell (i := 2) rfl
  have s3 : w4.cell? ⟨w2.heap.size + 1 + 1, 3, none⟩ = some (.func (.func 163) #[] #[.pointer (some ⟨w1.heap.size, 0, none⟩)]) := (SL.out.below B_X2.out SL.out.lt).cell (i := 3) rfl
  have s4 : w4.cell? ⟨w2.heap.size + 1 + 1, 4, none⟩ = some (.int .i64 2) := (SL.out.below B_X2.out SL.out.lt).cell (i := 4) rfl
  have s5 : w4.cell? ⟨w2.heap.size + 1 + 1, 5, none⟩ = some (.func (.func 160) #[] #[.pointer (some ⟨w1.heap.size + 1, 0, none⟩), .pointer (some ⟨w.heap.size, 0, none⟩)]) := (SL.out.below B_X2.out SL.out.lt).cell (i := 5) rfl
  have s6 : w4.cell? ⟨w2.heap.size + 1 + 1, 6, none⟩ = some (.int .i64 3) := (SL.out.below B_X2.out SL.out.lt).cell (i := 6) rfl
  have s7 : w4.cell? ⟨w2.heap.size + 1 + 1, 7, none⟩ = some (.func (.func 164) #[] #[.pointer (some ⟨w.heap.size, 0, none⟩), .pointer (some ⟨w.heap.size + 1 + 1, 0, none⟩), .pointer (some ⟨w2.heap.size + 1, 0, none⟩)]) := (SL.out.below B_X2.out SL.out.lt).cell (i := 7) rfl
  have s8 : w4.cell? ⟨w2.heap.size + 1 + 1, 8, none⟩ = some (.int .i64 4) := (SL.out.below B_X2.out SL.out.lt).cell (i := 8) rfl
  have s9 : w4.cell? ⟨w2.heap.size + 1 + 1, 9, none⟩ = some (.func (.func 165) #[] #[.pointer (some ⟨w.heap.size, 0, none⟩), .pointer (some ⟨w.heap.size + 1 + 1, 0, none⟩), .pointer (some ⟨w2.heap.size, 0, none⟩)]) := (SL.out.below B_X2.out SL.out.lt).cell (i := 9) rfl
  have ltSL := (SL.out.below B_X2.out SL.out.lt).lt
  have x0 : w4.cell? ⟨w3.heap.size, 0, none⟩ = some (.int .i64 5) := (XB1.out.below B_Y1.out XB1.out.lt).cell (i := 0) rfl
  have x1 : w4.cell? ⟨w3.heap.size, 1, none⟩ = some (.func (.func 163) #[] #[.pointer (some ⟨w1.heap.size, 0, none⟩)]) := (XB1.out.below B_Y1.out XB1.out.lt).cell (i := 1) rfl
  have ltXB1 := (XB1.out.below B_Y1.out XB1.out.lt).lt
  cases bb
  · go_wp2
    go_ret
    exact ⟨by simp, BW.out⟩
  go_wp2
  clear s0 s1 s2 s3 s4 s5 s6 s7 s8 s9 ltSL x0 x1 ltXB1
  clear XB1
  have s0 : w4.cell? ⟨w2.heap.size + 1 + 1, 0, none⟩ = some (.int .i64 1) := (SL.out.below B_X2.out SL.out.lt).cell (i := 0) rfl
  have s1 : w4.cell? ⟨w2.heap.size + 1 + 1, 1, none⟩ = some (.func (.func 161) #[] #[.pointer (some ⟨w.heap.size, 0, none⟩), .pointer (some ⟨w.heap.size + 1, 0, none⟩), .pointer (some ⟨w.heap.size + 1 + 1, 0, none⟩)]) := (SL.out.below B_X2.out SL.out.lt).cell (i := 1) rfl
  have s2 : w4.cell? ⟨w2.heap.size + 1 + 1, 2, none⟩ = some (.int .i64 5) := (SL.out.below B_X2.out SL.out.lt).cell (i := 2) rfl
  have s3 : w4.cell? ⟨w2.heap.size + 1 + 1, 3, none⟩ = some (.func (.func 163) #[] #[.pointer (some ⟨w1.heap.size, 0, none⟩)]) := (SL.out.below B_X2.out SL.out.lt).cell (i := 3) rfl
  have s4 : w4.cell? ⟨w2.heap.size + 1 + 1, 4, none⟩ = some (.int .i64 2) := (SL.out.below B_X2.out SL.out.lt).cell (i := 4) rfl
  have s5 : w4.cell? ⟨w2.heap.size + 1 + 1, 5, none⟩ = some (.func (.func 160) #[] #[.pointer (some ⟨w1.heap.size + 1, 0, none⟩), .pointer (some ⟨w.heap.size, 0, none⟩)]) := (SL.out.below B_X2.out SL.out.lt).cell (i := 5) rfl
  have s6 : w4.cell? ⟨w2.heap.size + 1 + 1, 6, none⟩ = some (.int .i64 3) := (SL.out.below B_X2.out SL.out.lt).cell (i := 6) rfl
  have s7 : w4.cell? ⟨w2.heap.size + 1 + 1, 7, none⟩ = some (.func (.func 164) #[] #[.pointer (some ⟨w.heap.size, 0, none⟩), .pointer (some ⟨w.heap.size + 1 + 1, 0, none⟩), .pointer (some ⟨w2.heap.size + 1, 0, none⟩)]) := (SL.out.below B_X2.out SL.out.lt).cell (i := 7) rfl
  have s8 : w4.cell? ⟨w2.heap.size + 1 + 1, 8, none⟩ = some (.int .i64 4) := (SL.out.below B_X2.out SL.out.lt).cell (i := 8) rfl
  have s9 : w4.cell? ⟨w2.heap.size + 1 + 1, 9, none⟩ = some (.func (.func 165) #[] #[.pointer (some ⟨w.heap.size, 0, none⟩), .pointer (some ⟨w.heap.size + 1 + 1, 0, none⟩), .pointer (some ⟨w2.heap.size, 0, none⟩)]) := (SL.out.below B_X2.out SL.out.lt).cell (i := 9) rfl
  have ltSL := (SL.out.below B_X2.out SL.out.lt).lt
  rw [rounds_succ]
  go_wp2_with fail
  generalize hXY2 : World.alloc w4 _ = Y2
  obtain ⟨q0, hA, hzY2⟩ := box1 hXY2
  clear hXY2
  replace BW := Lib.hid (BW.out.trans (hA.mono BW.out.size))
  replace B_X0 := Lib.hid (B_X0.out.trans (hA.mono B_X0.out.size))
  replace B_X1 := Lib.hid (B_X1.out.trans (hA.mono B_X1.out.size))
  replace B_X2 := Lib.hid (B_X2.out.trans (hA.mono B_X2.out.size))
  replace B_Y0 := Lib.hid (B_Y0.out.trans (hA.mono B_Y0.out.size))
  replace B_Y1 := Lib.hid (B_Y1.out.trans (hA.mono B_Y1.out.size))
  clear hA
  have XB2 := Lib.hid q0
  clear q0
  clear hzY2
  clear s0 s1 s2 s3 s4 s5 s6 s7 s8 s9 ltSL
  have s0 : Y2.cell? ⟨w2.heap.size + 1 + 1, 0, none⟩ = some (.int .i64 1) := (SL.out.below B_X2.out SL.out.lt).cell (i := 0) rfl
  have s1 : Y2.cell? ⟨w2.heap.size + 1 + 1, 1, none⟩ = some (.func (.func 161) #[] #[.pointer (some ⟨w.heap.size, 0, none⟩), .pointer (some ⟨w.heap.size + 1, 0, none⟩), .pointer (some ⟨w.heap.size + 1 + 1, 0, none⟩)]) := (SL.out.below B_X2.out SL.out.lt).cell (i := 1) rfl
  have s2 : Y2.cell? ⟨w2.heap.size + 1 + 1, 2, none⟩ = some (.int .i64 5) := (SL.out.below B_X2.out SL.out.lt).cell (i := 2) rfl
  have s3 : Y2.cell? ⟨w2.heap.size + 1 + 1, 3, none⟩ = some (.func (.func 163) #[] #[.pointer (some ⟨w1.heap.size, 0, none⟩)]) := (SL.out.below B_X2.out SL.out.lt).cell (i := 3) rfl
  have s4 : Y2.cell? ⟨w2.heap.size + 1 + 1, 4, none⟩ = some (.int .i64 2) := (SL.out.below B_X2.out SL.out.lt).cell (i := 4) rfl
  have s5 : Y2.cell? ⟨w2.heap.size + 1 + 1, 5, none⟩ = some (.func (.func 160) #[] #[.pointer (some ⟨w1.heap.size + 1, 0, none⟩), .pointer (some ⟨w.heap.size, 0, none⟩)]) := (SL.out.below B_X2.out SL.out.lt).cell (i := 5) rfl
  have s6 : Y2.cell? ⟨w2.heap.size + 1 + 1, 6, none⟩ = some (.int .i64 3) := (SL.out.below B_X2.out SL.out.lt).cell (i := 6) rfl
  have s7 : Y2.cell? ⟨w2.heap.size + 1 + 1, 7, none⟩ = some (.func (.func 164) #[] #[.pointer (some ⟨w.heap.size, 0, none⟩), .pointer (some ⟨w.heap.size + 1 + 1, 0, none⟩), .pointer (some ⟨w2.heap.size + 1, 0, none⟩)]) := (SL.out.below B_X2.out SL.out.lt).cell (i := 7) rfl
  have s8 : Y2.cell? ⟨w2.heap.size + 1 + 1, 8, none⟩ = some (.int .i64 4) := (SL.out.below B_X2.out SL.out.lt).cell (i := 8) rfl
  have s9 : Y2.cell? ⟨w2.heap.size + 1 + 1, 9, none⟩ = some (.func (.func 165) #[] #[.pointer (some ⟨w.heap.size, 0, none⟩), .pointer (some ⟨w.heap.size + 1 + 1, 0, none⟩), .pointer (some ⟨w2.heap.size, 0, none⟩)]) := (SL.out.below B_X2.out SL.out.lt).cell (i := 9) rfl
  have ltSL := (SL.out.below B_X2.out SL.out.lt).lt
  have x0 : Y2.cell? ⟨w4.heap.size, 0, none⟩ = some (.int .i64 2) := XB2.out.cell (i := 0) rfl
  have x1 : Y2.cell? ⟨w4.heap.size, 1, none⟩ = some (.func (.func 160) #[] #[.pointer (some ⟨w1.heap.size + 1, 0, none⟩), .pointer (some ⟨w.heap.size, 0, none⟩)]) := XB2.out.cell (i := 1) rfl
  have ltXB2 := XB2.out.lt
  go_wp2_with fail
  refine (f3.out _ BW.out _ _ (RB.out.below B_X1.out RB.out.lt) (TB.out.below B_X0.out TB.out.lt)).mono ?_
  rintro e w5 ⟨rfl, b5⟩
  replace BW := Lib.hid (BW.out.trans (b5.mono BW.out.size))
  replace B_X0 := Lib.hid (B_X0.out.trans (b5.mono B_X0.out.size))
  replace B_X1 := Lib.hid (B_X1.out.trans (b5.mono B_X1.out.size))
  replace B_X2 := Lib.hid (B_X2.out.trans (b5.mono B_X2.out.size))
  replace B_Y0 := Lib.hid (B_Y0.out.trans (b5.mono B_Y0.out.size))
  replace B_Y1 := Lib.hid (B_Y1.out.trans (b5.mono B_Y1.out.size))
  have B_Y2 := Lib.hid b5
  clear b5
  clear s0 s1 s2 s3 s4 s5 s6 s7 s8 s9 ltSL x0 x1 ltXB2
  have s0 : w5.cell? ⟨w2.heap.size + 1 + 1, 0, none⟩ = some (.int .i64 1) := (SL.out.below B_X2.out SL.out.lt).cell (i := 0) rfl
  have s1 : w5.cell? ⟨w2.heap.size + 1 + 1, 1, none⟩ = some (.func (.func 161) #[] #[.pointer (some ⟨w.heap.size, 0, none⟩), .pointer (some ⟨w.heap.size + 1, 0, none⟩), .pointer (some ⟨w.heap.size + 1 + 1, 0, none⟩)]) := (SL.out.below B_X2.out SL.out.lt).cell (i := 1) rfl
  have s2 : w5.cell? ⟨w2.heap.size + 1 + 1, 2, none⟩ = some (.int .i64 5) := (SL.out.below B_X2.out SL.out.lt).cell (i := 2) rfl
  have s3 : w5.cell? ⟨w2.heap.size + 1 + 1, 3, none⟩ = some (.func (.func 163) #[] #[.pointer (some ⟨w1.heap.size, 0, none⟩)]) := (SL.out.below B_X2.out SL.out.lt).cell (i := 3) rfl
  have s4 : w5.cell? ⟨w2.heap.size + 1 + 1, 4, none⟩ = some (.int .i64 2) := (SL.out.below B_X2.out SL.out.lt).cell (i := 4) rfl
  have s5 : w5.cell? ⟨w2.heap.size + 1 + 1, 5, none⟩ = some (.func (.func 160) #[] #[.pointer (some ⟨w1.heap.size + 1, 0, none⟩), .pointer (some ⟨w.heap.size, 0, none⟩)]) := (SL.out.below B_X2.out SL.out.lt).cell (i := 5) rfl
  have s6 : w5.cell? ⟨w2.heap.size + 1 + 1, 6, none⟩ = some (.int .i64 3) := (SL.out.below B_X2.out SL.out.lt).cell (i := 6) rfl
  have s7 : w5.cell? ⟨w2.heap.size + 1 + 1, 7, none⟩ = some (.func (.func 164) #[] #[.pointer (some ⟨w.heap.size, 0, none⟩), .pointer (some ⟨w.heap.size + 1 + 1, 0, none⟩), .pointer (some ⟨w2.heap.size + 1, 0, none⟩)]) := (SL.out.below B_X2.out SL.out.lt).cell (i := 7) rfl
  have s8 : w5.cell? ⟨w2.heap.size + 1 + 1, 8, none⟩ = some (.int .i64 4) := (SL.out.below B_X2.out SL.out.lt).cell (i := 8) rfl
  have s9 : w5.cell? ⟨w2.heap.size + 1 + 1, 9, none⟩ = some (.func (.func 165) #[] #[.pointer (some ⟨w.heap.size, 0, none⟩), .pointer (some ⟨w.heap.size + 1 + 1, 0, none⟩), .pointer (some ⟨w2.heap.size, 0, none⟩)]) := (SL.out.below B_X2.out SL.out.lt).cell (i := 9) rfl
  have ltSL := (SL.out.below B_X2.out SL.out.lt).lt
  have x0 : w5.cell? ⟨w4.heap.size, 0, none⟩ = some (.int .i64 2) := (XB2.out.below B_Y2.out XB2.out.lt).cell (i := 0) rfl
  have x1 : w5.cell? ⟨w4.heap.size, 1, none⟩ = some (.func (.func 160) #[] #[.pointer (some ⟨w1.heap.size + 1, 0, none⟩), .pointer (some ⟨w.heap.size, 0, none⟩)]) := (XB2.out.below B_Y2.out XB2.out.lt).cell (i := 1) rfl
  have ltXB2 := (XB2.out.below B_Y2.out XB2.out.lt).lt
  cases bc
  · go_wp2
    go_ret
    exact ⟨by simp, BW.out⟩
  go_wp2
  clear s0 s1 s2 s3 s4 s5 s6 s7 s8 s9 ltSL x0 x1 ltXB2
  clear XB2
  have s0 : w5.cell? ⟨w2.heap.size + 1 + 1, 0, none⟩ = some (.int .i64 1) := (SL.out.below B_X2.out SL.out.lt).cell (i := 0) rfl
  have s1 : w5.cell? ⟨w2.heap.size + 1 + 1, 1, none⟩ = some (.func (.func 161) #[] #[.pointer (some ⟨w.heap.size, 0, none⟩), .pointer (some ⟨w.heap.size + 1, 0, none⟩), .pointer (some ⟨w.heap.size + 1 + 1, 0, none⟩)]) := (SL.out.below B_X2.out SL.out.lt).cell (i := 1) rfl
  have s2 : w5.cell? ⟨w2.heap.size + 1 + 1, 2, none⟩ = some (.int .i64 5) := (SL.out.below B_X2.out SL.out.lt).cell (i := 2) rfl
  have s3 : w5.cell? ⟨w2.heap.size + 1 + 1, 3, none⟩ = some (.func (.func 163) #[] #[.pointer (some ⟨w1.heap.size, 0, none⟩)]) := (SL.out.below B_X2.out SL.out.lt).cell (i := 3) rfl
  have s4 : w5.cell? ⟨w2.heap.size + 1 + 1, 4, none⟩ = some (.int .i64 2) := (SL.out.below B_X2.out SL.out.lt).cell (i := 4) rfl
  have s5 : w5.cell? ⟨w2.heap.size + 1 + 1, 5, none⟩ = some (.func (.func 160) #[] #[.pointer (some ⟨w1.heap.size + 1, 0, none⟩), .pointer (some ⟨w.heap.size, 0, none⟩)]) := (SL.out.below B_X2.out SL.out.lt).cell (i := 5) rfl
  have s6 : w5.cell? ⟨w2.heap.size + 1 + 1, 6, none⟩ = some (.int .i64 3) := (SL.out.below B_X2.out SL.out.lt).cell (i := 6) rfl
  have s7 : w5.cell? ⟨w2.heap.size + 1 + 1, 7, none⟩ = some (.func (.func 164) #[] #[.pointer (some ⟨w.heap.size, 0, none⟩), .pointer (some ⟨w.heap.size + 1 + 1, 0, none⟩), .pointer (some ⟨w2.heap.size + 1, 0, none⟩)]) := (SL.out.below B_X2.out SL.out.lt).cell (i := 7) rfl
  have s8 : w5.cell? ⟨w2.heap.size + 1 + 1, 8, none⟩ = some (.int .i64 4) := (SL.out.below B_X2.out SL.out.lt).cell (i := 8) rfl
  have s9 : w5.cell? ⟨w2.heap.size + 1 + 1, 9, none⟩ = some (.func (.func 165) #[] #[.pointer (some ⟨w.heap.size, 0, none⟩), .pointer (some ⟨w.heap.size + 1 + 1, 0, none⟩), .pointer (some ⟨w2.heap.size, 0, none⟩)]) := (SL.out.below B_X2.out SL.out.lt).cell (i := 9) rfl
  have ltSL := (SL.out.below B_X2.out SL.out.lt).lt
  rw [rounds_succ]
  go_wp2_with fail
  generalize hXY3 : World.alloc w5 _ = Y3
  obtain ⟨q0, hA, hzY3⟩ := box1 hXY3
  clear hXY3
  replace BW := Lib.hid (BW.out.trans (hA.mono BW.out.size))
  replace B_X0 := Lib.hid (B_X0.out.trans (hA.mono B_X0.out.size))
  replace B_X1 := Lib.hid (B_X1.out.trans (hA.mono B_X1.out.size))
  replace B_X2 := Lib.hid (B_X2.out.trans (hA.mono B_X2.out.size))
  replace B_Y0 := Lib.hid (B_Y0.out.trans (hA.mono B_Y0.out.size))
  replace B_Y1 := Lib.hid (B_Y1.out.trans (hA.mono B_Y1.out.size))
  replace B_Y2 := Lib.hid (B_Y2.out.trans (hA.mono B_Y2.out.size))
  clear hA
  have XB3 := Lib.hid q0
  clear q0
  clear hzY3
  clear s0 s1 s2 s3 s4 s5 s6 s7 s8 s9 ltSL
  have s0 : Y3.cell? ⟨w2.heap.size + 1 + 1, 0, none⟩ = some (.int .i64 1) := (SL.out.below B_X2.out SL.out.lt).cell (i := 0) rfl
  have s1 : Y3.cell? ⟨w2.heap.size + 1 + 1, 1, none⟩ = some (.func (.func 161) #[] #[.pointer (some ⟨w.heap.size, 0, none⟩), .pointer (some ⟨w.heap.size + 1, 0, none⟩), .pointer (some ⟨w.heap.size + 1 + 1, 0, none⟩)]) := (SL.out.below B_X2.out SL.out.lt).cell (i := 1) rfl
  have s2 : Y3.cell? ⟨w2.heap.size + 1 + 1, 2, none⟩ = some (.int .i64 5) := (SL.out.below B_X2.out SL.out.lt).cell (i := 2) rfl
  have s3 : Y3.cell? ⟨w2.heap.size + 1 + 1, 3, none⟩ = some (.func (.func 163) #[] #[.pointer (some ⟨w1.heap.size, 0, none⟩)]) := (SL.out.below B_X2.out SL.out.lt).cell (i := 3) rfl
  have s4 : Y3.cell? ⟨w2.heap.size + 1 + 1, 4, none⟩ = some (.int .i64 2) := (SL.out.below B_X2.out SL.out.lt).cell (i := 4) rfl
  have s5 : Y3.cell? ⟨w2.heap.size + 1 + 1, 5, none⟩ = some (.func (.func 160) #[] #[.pointer (some ⟨w1.heap.size + 1, 0, none⟩), .pointer (some ⟨w.heap.size, 0, none⟩)]) := (SL.out.below B_X2.out SL.out.lt).cell (i := 5) rfl
  have s6 : Y3.cell? ⟨w2.heap.size + 1 + 1, 6, none⟩ = some (.int .i64 3) := (SL.out.below B_X2.out SL.out.lt).cell (i := 6) rfl
  have s7 : Y3.cell? ⟨w2.heap.size + 1 + 1, 7, none⟩ = some (.func (.func 164) #[] #[.pointer (some ⟨w.heap.size, 0, none⟩), .pointer (some ⟨w.heap.size + 1 + 1, 0, none⟩), .pointer (some ⟨w2.heap.size + 1, 0, none⟩)]) := (SL.out.below B_X2.out SL.out.lt).cell (i := 7) rfl
  have s8 : Y3.cell? ⟨w2.heap.size + 1 + 1, 8, none⟩ = some (.int .i64 4) := (SL.out.below B_X2.out SL.out.lt).cell (i := 8) rfl
  have s9 : Y3.cell? ⟨w2.heap.size + 1 + 1, 9, none⟩ = some (.func (.func 165) #[] #[.pointer (some ⟨w.heap.size, 0, none⟩), .pointer (some ⟨w.heap.size + 1 + 1, 0, none⟩), .pointer (some ⟨w2.heap.size, 0, none⟩)]) := (SL.out.below B_X2.out SL.out.lt).cell (i := 9) rfl
  have ltSL := (SL.out.below B_X2.out SL.out.lt).lt
  have x0 : Y3.cell? ⟨w5.heap.size, 0, none⟩ = some (.int .i64 3) := XB3.out.cell (i := 0) rfl
  have x1 : Y3.cell? ⟨w5.heap.size, 1, none⟩ = some (.func (.func 164) #[] #[.pointer (some ⟨w.heap.size, 0, none⟩), .pointer (some ⟨w.heap.size + 1 + 1, 0, none⟩), .pointer (some ⟨w2.heap.size + 1, 0, none⟩)]) := XB3.out.cell (i := 1) rfl
  have ltXB3 := XB3.out.lt
  go_wp2_with fail
  refine (f4.out _ BW.out _ _ _ (TB.out.below B_X0.out TB.out.lt) (EB.out.below B_X0.out EB.out.lt) (EN.out.below B_X2.out EN.out.lt)).mono ?_
  rintro e w6 ⟨rfl, b6⟩
  replace BW := Lib.hid (BW.out.trans (b6.mono BW.out.size))
  replace B_X0 := Lib.hid (B_X0.out.trans (b6.mono B_X0.out.size))
  replace B_X1 := Lib.hid (B_X1.out.trans (b6.mono B_X1.out.size))
  replace B_X2 := Lib.hid (B_X2.out.trans (b6.mono B_X2.out.size))
  replace B_Y0 := Lib.hid (B_Y0.out.trans (b6.mono B_Y0.out.size))
  replace B_Y1 := Lib.hid (B_Y1.out.trans (b6.mono B_Y1.out.size))
  replace B_Y2 := Lib.hid (B_Y2.out.trans (b6.mono B_Y2.out.size))
  have B_Y3 := Lib.hid b6
  clear b6
  clear s0 s1 s2 s3 s4 s5 s6 s7 s8 s9 ltSL x0 x1 ltXB3
  have s0 : w6.cell? ⟨w2.heap.size + 1 + 1, 0, none⟩ = some (.int .i64 1) := (SL.out.below B_X2.out SL.out.lt).cell (i := 0) rfl
  have s1 : w6.cell? ⟨w2.heap.size + 1 + 1, 1, none⟩ = some (.func (.func 161) #[] #[.pointer (some ⟨w.heap.size, 0, none⟩), .pointer (some ⟨w.heap.size + 1, 0, none⟩), .pointer (some ⟨w.heap.size + 1 + 1, 0, none⟩)]) := (SL.out.below B_X2.out SL.out.lt).cell (i := 1) rfl
  have s2 : w6.cell? ⟨w2.heap.size + 1 + 1, 2, none⟩ = some (.int .i64 5) := (SL.out.below B_X2.out SL.out.lt).cell (i := 2) rfl
  have s3 : w6.cell? ⟨w2.heap.size + 1 + 1, 3, none⟩ = some (.func (.func 163) #[] #[.pointer (some ⟨w1.heap.size, 0, none⟩)]) := (SL.out.below B_X2.out SL.out.lt).cell (i := 3) rfl
  have s4 : w6.cell? ⟨w2.heap.size + 1 + 1, 4, none⟩ = some (.int .i64 2) := (SL.out.below B_X2.out SL.out.lt).cell (i := 4) rfl
  have s5 : w6.cell? ⟨w2.heap.size + 1 + 1, 5, none⟩ = some (.func (.func 160) #[] #[.pointer (some ⟨w1.heap.size + 1, 0, none⟩), .pointer (some ⟨w.heap.size, 0, none⟩)]) := (SL.out.below B_X2.out SL.out.lt).cell (i := 5) rfl
  have s6 : w6.cell? ⟨w2.heap.size + 1 + 1, 6, none⟩ = some (.int .i64 3) := (SL.out.below B_X2.out SL.out.lt).cell (i := 6) rfl
  have s7 : w6.cell? ⟨w2.heap.size + 1 + 1, 7, none⟩ = some (.func (.func 164) #[] #[.pointer (some ⟨w.heap.size, 0, none⟩), .pointer (some ⟨w.heap.size + 1 + 1, 0, none⟩), .pointer (some ⟨w2.heap.size + 1, 0, none⟩)]) := (SL.out.below B_X2.out SL.out.lt).cell (i := 7) rfl
  have s8 : w6.cell? ⟨w2.heap.size + 1 + 1, 8, none⟩ = some (.int .i64 4) := (SL.out.below B_X2.out SL.out.lt).cell (i := 8) rfl
  have s9 : w6.cell? ⟨w2.heap.size + 1 + 1, 9, none⟩ = some (.func (.func 165) #[] #[.pointer (some ⟨w.heap.size, 0, none⟩), .pointer (some ⟨w.heap.size + 1 + 1, 0, none⟩), .pointer (some ⟨w2.heap.size, 0, none⟩)]) := (SL.out.below B_X2.out SL.out.lt).cell (i := 9) rfl
  have ltSL := (SL.out.below B_X2.out SL.out.lt).lt
  have x0 : w6.cell? ⟨w5.heap.size, 0, none⟩ = some (.int .i64 3) := (XB3.out.below B_Y3.out XB3.out.lt).cell (i := 0) rfl
  have x1 : w6.cell? ⟨w5.heap.size, 1, none⟩ = some (.func (.func 164) #[] #[.pointer (some ⟨w.heap.size, 0, none⟩), .pointer (some ⟨w.heap.size + 1 + 1, 0, none⟩), .pointer (some ⟨w2.heap.size + 1, 0, none⟩)]) := (XB3.out.below B_Y3.out XB3.out.lt).cell (i := 1) rfl
  have ltXB3 := (XB3.out.below B_Y3.out XB3.out.lt).lt
  cases bd
  · go_wp2
    go_ret
    exact ⟨by simp, BW.out⟩
  go_wp2
  clear s0 s1 s2 s3 s4 s5 s6 s7 s8 s9 ltSL x0 x1 ltXB3
  clear XB3
  have s0 : w6.cell? ⟨w2.heap.size + 1 + 1, 0, none⟩ = some (.int .i64 1) := (SL.out.below B_X2.out SL.out.lt).cell (i := 0) rfl
  have s1 : w6.cell? ⟨w2.heap.size + 1 + 1, 1, none⟩ = some (.func (.func 161) #[] #[.pointer (some ⟨w.heap.size, 0, none⟩), .pointer (some ⟨w.heap.size + 1, 0, none⟩), .pointer (some ⟨w.heap.size + 1 + 1, 0, none⟩)]) := (SL.out.below B_X2.out SL.out.lt).cell (i := 1) rfl
  have s2 : w6.cell? ⟨w2.heap.size + 1 + 1, 2, none⟩ = some (.int .i64 5) := (SL.out.below B_X2.out SL.out.lt).cell (i := 2) rfl
  have s3 : w6.cell? ⟨w2.heap.size + 1 + 1, 3, none⟩ = some (.func (.func 163) #[] #[.pointer (some ⟨w1.heap.size, 0, none⟩)]) := (SL.out.below B_X2.out SL.out.lt).cell (i := 3) rfl
  have s4 : w6.cell? ⟨w2.heap.size + 1 + 1, 4, none⟩ = some (.int .i64 2) := (SL.out.below B_X2.out SL.out.lt).cell (i := 4) rfl
  have s5 : w6.cell? ⟨w2.heap.size + 1 + 1, 5, none⟩ = some (.func (.func 160) #[] #[.pointer (some ⟨w1.heap.size + 1, 0, none⟩), .pointer (some ⟨w.heap.size, 0, none⟩)]) := (SL.out.below B_X2.out SL.out.lt).cell (i := 5) rfl
  have s6 : w6.cell? ⟨w2.heap.size + 1 + 1, 6, none⟩ = some (.int .i64 3) := (SL.out.below B_X2.out SL.out.lt).cell (i := 6) rfl
  have s7 : w6.cell? ⟨w2.heap.size + 1 + 1, 7, none⟩ = some (.func (.func 164) #[] #[.pointer (some ⟨w.heap.size, 0, none⟩), .pointer (some ⟨w.heap.size + 1 + 1, 0, none⟩), .pointer (some ⟨w2.heap.size + 1, 0, none⟩)]) := (SL.out.below B_X2.out SL.out.lt).cell (i := 7) rfl
  have s8 : w6.cell? ⟨w2.heap.size + 1 + 1, 8, none⟩ = some (.int .i64 4) := (SL.out.below B_X2.out SL.out.lt).cell (i := 8) rfl
  have s9 : w6.cell? ⟨w2.heap.size + 1 + 1, 9, none⟩ = some (.func (.func 165) #[] #[.pointer (some ⟨w.heap.size, 0, none⟩), .pointer (some ⟨w.heap.size + 1 + 1, 0, none⟩), .pointer (some ⟨w2.heap.size, 0, none⟩)]) := (SL.out.below B_X2.out SL.out.lt).cell (i := 9) rfl
  have ltSL := (SL.out.below B_X2.out SL.out.lt).lt
  rw [rounds_succ]
  go_wp2_with fail
  generalize hXY4 : World.alloc w6 _ = Y4
  obtain ⟨q0, hA, hzY4⟩ := box1 hXY4
  clear hXY4
  replace BW := Lib.hid (BW.out.trans (hA.mono BW.out.size))
  replace B_X0 := Lib.hid (B_X0.out.trans (hA.mono B_X0.out.size))
  replace B_X1 := Lib.hid (B_X1.out.trans (hA.mono B_X1.out.size))
  replace B_X2 := Lib.hid (B_X2.out.trans (hA.mono B_X2.out.size))
  replace B_Y0 := Lib.hid (B_Y0.out.trans (hA.mono B_Y0.out.size))
  replace B_Y1 := Lib.hid (B_Y1.out.trans (hA.mono B_Y1.out.size))
  replace B_Y2 := Lib.hid (B_Y2.out.trans (hA.mono B_Y2.out.size))
  replace B_Y3 := Lib.hid (B_Y3.out.trans (hA.mono B_Y3.out.size))
  clear hA
  have XB4 := Lib.hid q0
  clear q0
  clear hzY4
  clear s0 s1 s2 s3 s4 s5 s6 s7 s8 s9 ltSL
  have s0 : Y4.cell? ⟨w2.heap.size + 1 + 1, 0, none⟩ = some (.int .i64 1) := (SL.out.below B_X2.out SL.out.lt).cell (i := 0) rfl
  have s1 : Y4.cell? ⟨w2.heap.size + 1 + 1, 1, none⟩ = some (.func (.func 161) #[] #[.pointer (some ⟨w.heap.size, 0, none⟩), .pointer (some ⟨w.heap.size + 1, 0, none⟩), .pointer (some ⟨w.heap.size + 1 + 1, 0, none⟩)]) := (SL.out.below B_X2.out SL.out.lt).cell (i := 1) rfl
  have s2 : Y4.cell? ⟨w2.heap.size + 1 + 1, 2, none⟩ = some (.int .i64 5) := (SL.out.below B_X2.out SL.out.lt).cell (i := 2) rfl
  have s3 : Y4.cell? ⟨w2.heap.size + 1 + 1, 3, none⟩ = some (.func (.func 163) #[] #[.pointer (some ⟨w1.heap.size, 0, none⟩)]) := (SL.out.below B_X2.out SL.out.lt).cell (i := 3) rfl
  have s4 : Y4.cell? ⟨w2.heap.size + 1 + 1, 4, none⟩ = some (.int .i64 2) := (SL.out.below B_X2.out SL.out.lt).cell (i := 4) rfl
  have s5 : Y4.cell? ⟨w2.heap.size + 1 + 1, 5, none⟩ = some (.func (.func 160) #[] #[.pointer (some ⟨w1.heap.size + 1, 0, none⟩), .pointer (some ⟨w.heap.size, 0, none⟩)]) := (SL.out.below B_X2.out SL.out.lt).cell (i := 5) rfl
  have s6 : Y4.cell? ⟨w2.heap.size + 1 + 1, 6, none⟩ = some (.int .i64 3) := (SL.out.below B_X2.out SL.out.lt).cell (i := 6) rfl
  have s7 : Y4.cell? ⟨w2.heap.size + 1 + 1, 7, none⟩ = some (.func (.func 164) #[] #[.pointer (some ⟨w.heap.size, 0, none⟩), .pointer (some ⟨w.heap.size + 1 + 1, 0, none⟩), .pointer (some ⟨w2.heap.size + 1, 0, none⟩)]) := (SL.out.below B_X2.out SL.out.lt).cell (i := 7) rfl
  have s8 : Y4.cell? ⟨w2.heap.size + 1 + 1, 8, none⟩ = some (.int .i64 4) := (SL.out.below B_X2.out SL.out.lt).cell (i := 8) rfl
  have s9 : Y4.cell? ⟨w2.heap.size + 1 + 1, 9, none⟩ = some (.func (.func 165) #[] #[.pointer (some ⟨w.heap.size, 0, none⟩), .pointer (some ⟨w.heap.size + 1 + 1, 0, none⟩), .pointer (some ⟨w2.heap.size, 0, none⟩)]) := (SL.out.below B_X2.out SL.out.lt).cell (i := 9) rfl
  have ltSL := (SL.out.below B_X2.out SL.out.lt).lt
  have x0 : Y4.cell? ⟨w6.heap.size, 0, none⟩ = some (.int .i64 4) := XB4.out.cell (i := 0) rfl
  have x1 : Y4.cell? ⟨w6.heap.size, 1, none⟩ = some (.func (.func 165) #[] #[.pointer (some ⟨w.heap.size, 0, none⟩), .pointer (some ⟨w.heap.size + 1 + 1, 0, none⟩), .pointer (some ⟨w2.heap.size, 0, none⟩)]) := XB4.out.cell (i := 1) rfl
  have ltXB4 := XB4.out.lt
  go_wp2_with fail
  refine (f5.out _ BW.out _ _ _ (TB.out.below B_X0.out TB.out.lt) (EB.out.below B_X0.out EB.out.lt) (LS.out.below B_X2.out LS.out.lt)).mono ?_
  rintro e w7 ⟨rfl, b7⟩
  replace BW := Lib.hid (BW.out.trans (b7.mono BW.out.size))
  replace B_X0 := Lib.hid (B_X0.out.trans (b7.mono B_X0.out.size))
  replace B_X1 := Lib.hid (B_X1.out.trans (b7.mono B_X1.out.size))
  replace B_X2 := Lib.hid (B_X2.out.trans (b7.mono B_X2.out.size))
  replace B_Y0 := Lib.hid (B_Y0.out.trans (b7.mono B_Y0.out.size))
  replace B_Y1 := Lib.hid (B_Y1.out.trans (b7.mono B_Y1.out.size))
  replace B_Y2 := Lib.hid (B_Y2.out.trans (b7.mono B_Y2.out.size))
  replace B_Y3 := Lib.hid (B_Y3.out.trans (b7.mono B_Y3.out.size))
  have B_Y4 := Lib.hid b7
  clear b7
  clear s0 s1 s2 s3 s4 s5 s6 s7 s8 s9 ltSL x0 x1 ltXB4
  have s0 : w7.cell? ⟨w2.heap.size + 1 + 1, 0, none⟩ = some (.int .i64 1) := (SL.out.below B_X2.out SL.out.lt).cell (i := 0) rfl
  have s1 : w7.cell? ⟨w2.heap.size + 1 + 1, 1, none⟩ = some (.func (.func 161) #[] #[.pointer (some ⟨w.heap.size, 0, none⟩), .pointer (some ⟨w.heap.size + 1, 0, none⟩), .pointer (some ⟨w.heap.size + 1 + 1, 0, none⟩)]) := (SL.out.below B_X2.out SL.out.lt).cell (i := 1) rfl
  have s2 : w7.cell? ⟨w2.heap.size + 1 + 1, 2, none⟩ = some (.int .i64 5) := (SL.out.below B_X2.out SL.out.lt).cell (i := 2) rfl
  have s3 : w7.cell? ⟨w2.heap.size + 1 + 1, 3, none⟩ = some (.func (.func 163) #[] #[.pointer (some ⟨w1.heap.size, 0, none⟩)]) := (SL.out.below B_X2.out SL.out.lt).cell (i := 3) rfl
  have s4 : w7.cell? ⟨w2.heap.size + 1 + 1, 4, none⟩ = some (.int .i64 2) := (SL.out.below B_X2.out SL.out.lt).cell (i := 4) rfl
  have s5 : w7.cell? ⟨w2.heap.size + 1 + 1, 5, none⟩ = some (.func (.func 160) #[] #[.pointer (some ⟨w1.heap.size + 1, 0, none⟩), .pointer (some ⟨w.heap.size, 0, none⟩)]) := (SL.out.below B_X2.out SL.out.lt).cell (i := 5) rfl
  have s6 : w7.cell? ⟨w2.heap.size + 1 + 1, 6, none⟩ = some (.int .i64 3) := (SL.out.below B_X2.out SL.out.lt).cell (i := 6) rfl
  have s7 : w7.cell? ⟨w2.heap.size + 1 + 1, 7, none⟩ = some (.func (.func 164) #[] #[.pointer (some ⟨w.heap.size, 0, none⟩), .pointer (some ⟨w.heap.size + 1 + 1, 0, none⟩), .pointer (some ⟨w2.heap.size + 1, 0, none⟩)]) := (SL.out.below B_X2.out SL.out.lt).cell (i := 7) rfl
  have s8 : w7.cell? ⟨w2.heap.size + 1 + 1, 8, none⟩ = some (.int .i64 4) := (SL.out.below B_X2.out SL.out.lt).cell (i := 8) rfl
  have s9 : w7.cell? ⟨w2.heap.size + 1 + 1, 9, none⟩ = some (.func (.func 165) #[] #[.pointer (some ⟨w.heap.size, 0, none⟩), .pointer (some ⟨w.heap.size + 1 + 1, 0, none⟩), .pointer (some ⟨w2.heap.size, 0, none⟩)]) := (SL.out.below B_X2.out SL.out.lt).cell (i := 9) rfl
  have ltSL := (SL.out.below B_X2.out SL.out.lt).lt
  have x0 : w7.cell? ⟨w6.heap.size, 0, none⟩ = some (.int .i64 4) := (XB4.out.below B_Y4.out XB4.out.lt).cell (i := 0) rfl
  have x1 : w7.cell? ⟨w6.heap.size, 1, none⟩ = some (.func (.func 165) #[] #[.pointer (some ⟨w.heap.size, 0, none⟩), .pointer (some ⟨w.heap.size + 1 + 1, 0, none⟩), .pointer (some ⟨w2.heap.size, 0, none⟩)]) := (XB4.out.below B_Y4.out XB4.out.lt).cell (i := 1) rfl
  have ltXB4 := (XB4.out.below B_Y4.out XB4.out.lt).lt
  cases be
  · go_wp2
    go_ret
    exact ⟨by simp, BW.out⟩
  go_wp2
  clear s0 s1 s2 s3 s4 s5 s6 s7 s8 s9 ltSL x0 x1 ltXB4
  clear XB4
  have s0 : w7.cell? ⟨w2.heap.size + 1 + 1, 0, none⟩ = some (.int .i64 1) := (SL.out.below B_X2.out SL.out.lt).cell (i := 0) rfl
  have s1 : w7.cell? ⟨w2.heap.size + 1 + 1, 1, none⟩ = some (.func (.func 161) #[] #[.pointer (some ⟨w.heap.size, 0, none⟩), .pointer (some ⟨w.heap.size + 1, 0, none⟩), .pointer (some ⟨w.heap.size + 1 + 1, 0, none⟩)]) := (SL.out.below B_X2.out SL.out.lt).cell (i := 1) rfl
  have s2 : w7.cell? ⟨w2.heap.size + 1 + 1, 2, none⟩ = some (.int .i64 5) := (SL.out.below B_X2.out SL.out.lt).cell (i := 2) rfl
  have s3 : w7.cell? ⟨w2.heap.size + 1 + 1, 3, none⟩ = some (.func (.func 163) #[] #[.pointer (some ⟨w1.heap.size, 0, none⟩)]) := (SL.out.below B_X2.out SL.out.lt).cell (i := 3) rfl
  have s4 : w7.cell? ⟨w2.heap.size + 1 + 1, 4, none⟩ = some (.int .i64 2) := (SL.out.below B_X2.out SL.out.lt).cell (i := 4) rfl
  have s5 : w7.cell? ⟨w2.heap.size + 1 + 1, 5, none⟩ = some (.func (.func 160) #[] #[.pointer (some ⟨w1.heap.size + 1, 0, none⟩), .pointer (some ⟨w.heap.size, 0, none⟩)]) := (SL.out.below B_X2.out SL.out.lt).cell (i := 5) rfl
  have s6 : w7.cell? ⟨w2.heap.size + 1 + 1, 6, none⟩ = some (.int .i64 3) := (SL.out.below B_X2.out SL.out.lt).cell (i := 6) rfl
  have s7 : w7.cell? ⟨w2.heap.size + 1 + 1, 7, none⟩ = some (.func (.func 164) #[] #[.pointer (some ⟨w.heap.size, 0, none⟩), .pointer (some ⟨w.heap.size + 1 + 1, 0, none⟩), .pointer (some ⟨w2.heap.size + 1, 0, none⟩)]) := (SL.out.below B_X2.out SL.out.lt).cell (i := 7) rfl
  have s8 : w7.cell? ⟨w2.heap.size + 1 + 1, 8, none⟩ = some (.int .i64 4) := (SL.out.below B_X2.out SL.out.lt).cell (i := 8) rfl
  have s9 : w7.cell? ⟨w2.heap.size + 1 + 1, 9, none⟩ = some (.func (.func 165) #[] #[.pointer (some ⟨w.heap.size, 0, none⟩), .pointer (some ⟨w.heap.size + 1 + 1, 0, none⟩), .pointer (some ⟨w2.heap.size, 0, none⟩)]) := (SL.out.below B_X2.out SL.out.lt).cell (i := 9) rfl
  have ltSL := (SL.out.below B_X2.out SL.out.lt).lt
  rw [rounds_succ]
  go_wp2
  go_ret
  exact ⟨by simp, BW.out⟩
end Go.Proofs.YtdkeiadpnnleoaaGreat

namespace Go.Proofs.YtdkeiadpnnleoaaGreat
open Go.RowKit
attribute [local irreducible] wpQuiet

noncomputable def kpL (m : Msn) (l : List Int) : Int := if radOkB m l = true then leadV m l else 0
noncomputable def kpK (m : Msn) (l : List Int) : Int := if radOkB m l = true then leadK m l else 0
noncomputable def kpE (m : Msn) (l : List Int) : Int := if radOkB m l = true then 0 else 1
set_option linter.unusedSimpArgs false in
set_option linter.unusedVariables false in
set_option maxRecDepth 8000 in
set_option maxHeartbeats 3200000 in
theorem tkeeps_no (m : Msn) (vw vh vr vl : Value) (l : List Int) (w : World) (hm : MsnAt w.heap.size w m vw vh vr) (hl : IntsAt w.heap.size w vl l) (hok : radOkB m l = false) :
    Calls Tryz.prog 27 #[.agg (msnCells m vw vh vr), vl] w fun e w' => e = .returned (.tuple #[.int .i64 0, .int .i64 0, .int .i64 1]) ∧ Below w.heap.size w w' := by
  have f1 := fun w1 (B : Below w.heap.size w w1) => tnew_no m vw vh vr vl l w1 ((hm.below B).mono B.size) ((hl.below B).mono B.size) hok
  obtain ⟨⟨-, a1, c1, rfl, -⟩, ⟨-, a2, c2, rfl, -⟩, ⟨-, a3, c3, rfl, -⟩⟩ := hm
  obtain ⟨-, al, cl, rfl, -⟩ := hl
  unfold msnCells trip0 at *
  replace f1 := Lib.hid f1
  have BW := Lib.hid (Below.refl w.heap.size w)
  go_enter Tryz.func27, Tryz.ntmps27
  go_wp2_with fail
  generalize hXX0 : World.alloc w _ = X0
  obtain ⟨q0, hA, hzX0⟩ := box1 hXX0
  clear hXX0
  have BW := Lib.hid hA
  clear hA
  have MB := Lib.hid q0
  clear q0
  refine (f1.out _ BW.out).mono ?_
  rintro e w1 ⟨rfl, b1⟩
  replace BW := Lib.hid (BW.out.trans (b1.mono BW.out.size))
  have B_X0 := Lib.hid b1
  clear b1
  go_upto_region 2 with fail
  generalize hXX1 : World.alloc w1 _ = X1
  obtain ⟨-, hA, hzX1⟩ := box1 hXX1
  clear hXX1
  replace BW := Lib.hid (BW.out.trans (hA.mono BW.out.size))
  replace B_X0 := Lib.hid (B_X0.out.trans (hA.mono B_X0.out.size))
  clear hA
  go_wp2
  go_ret3
  exact ⟨rfl, BW.out⟩
theorem trip_cells {W : World} {B : Nat} {m : Msn} {vw vh vr vb va vt ve : Value} {T : TypeId} (H : Has W B (tripCells m vw vh vr vb va vt ve) T) : W.cell? ⟨B, 0, none⟩ = some (vw) ∧ W.cell? ⟨B, 1, none⟩ = some (vh) ∧ W.cell? ⟨B, 2, none⟩ = some (.int .i64 m.start) ∧ W.cell? ⟨B, 3, none⟩ = some (vr) ∧ W.cell? ⟨B, 4, none⟩ = some (.int .i64 m.speed) ∧ W.cell? ⟨B, 5, none⟩ = some (.int .i64 m.part) ∧ W.cell? ⟨B, 6, none⟩ = some (.int .i64 m.flow) ∧ W.cell? ⟨B, 7, none⟩ = some (.int .i64 m.idle) ∧ W.cell? ⟨B, 8, none⟩ = some (.int .i64 m.drive) ∧ W.cell? ⟨B, 9, none⟩ = some (.int .i64 m.battery) ∧ W.cell? ⟨B, 10, none⟩ = some (.int .i64 m.deadline) ∧ W.cell? ⟨B, 11, none⟩ = some (vb) ∧ W.cell? ⟨B, 12, none⟩ = some (va) ∧ W.cell? ⟨B, 13, none⟩ = some (vt) ∧ W.cell? ⟨B, 14, none⟩ = some (ve) :=
  ⟨H.cell (i := 0) rfl, H.cell (i := 1) rfl, H.cell (i := 2) rfl, H.cell (i := 3) rfl, H.cell (i := 4) rfl, H.cell (i := 5) rfl, H.cell (i := 6) rfl, H.cell (i := 7) rfl, H.cell (i := 8) rfl, H.cell (i := 9) rfl, H.cell (i := 10) rfl, H.cell (i := 11) rfl, H.cell (i := 12) rfl, H.cell (i := 13) rfl, H.cell (i := 14) rfl⟩
set_option linter.unusedSimpArgs false in
set_option linter.unusedVariables false in
set_option maxRecDepth 8000 in
set_option maxHeartbeats 3200000 in
theorem tkeeps_yes (m : Msn) (vw vh vr vl : Value) (l : List Int) (w : World) (hm : MsnAt w.heap.size w m vw vh vr) (hl : IntsAt w.heap.size w vl l) (hok : radOkB m l = true) :
    Calls Tryz.prog 27 #[.agg (msnCells m vw vh vr), vl] w fun e w' => e = .returned (.tuple #[.int .i64 (leadV m l), .int .i64 (leadK m l), .int .i64 0]) ∧ Below w.heap.size w w' := by
  have hvs : validB m = true ∧ stopsB m l = true := by simpa [radOkB] using hok
  have V := (validB_iff m).1 hvs.1
  have n41 := V.n41
  have n2 := V.n2
  have f1 := fun w1 (B : Below w.heap.size w w1) => tnew_yes m vw vh vr vl l w1 ((hm.below B).mono B.size) ((hl.below B).mono B.size) hok
  have hmm := fun w1 (B : Below w.heap.size w w1) => (hm.below B).mono B.size
  have f2 := fun vb va vt ve w1 (T : TripAt w1.heap.size w1 m l vw vh vr vb va vt ve) k hk => tkind_any m l vw vh vr vb va vt ve w1 T V k hk
  obtain ⟨⟨-, a1, c1, rfl, -⟩, ⟨-, a2, c2, rfl, -⟩, ⟨-, a3, c3, rfl, -⟩⟩ := hm
  obtain ⟨-, al, cl, rfl, -⟩ := hl
  have hfin := fun n h1 h2 h3 => lead_iff (m := m) (l := l) (n := n) h1 h2 h3
  have hkb := fun k => (kind_bd m l k).1
  unfold msnCells tripCells at *
  replace f1 := Lib.hid f1
  replace f2 := Lib.hid f2
  replace hmm := Lib.hid hmm
  replace hfin := Lib.hid hfin
  replace hkb := Lib.hid hkb
  clear hok hvs V
  have BW := Lib.hid (Below.refl w.heap.size w)
  go_enter Tryz.func27, Tryz.ntmps27
  go_wp2_with fail
  generalize hXX0 : World.alloc w _ = X0
  obtain ⟨q0, hA, hzX0⟩ := box1 hXX0
  clear hXX0
  have BW := Lib.hid hA
  clear hA
  have MB := Lib.hid q0
  clear q0
  refine (f1.out _ BW.out).mono ?_
  rintro e w1 ⟨vb, va, vt, ve, rfl, ⟨t1, t2, t3, t4⟩, b1⟩
  replace BW := Lib.hid (BW.out.trans (b1.mono BW.out.size))
  have B_X0 := Lib.hid b1
  clear b1
  have TT := Lib.hid (show TripAt w1.heap.size w1 m l _ _ _ vb va vt ve from ⟨hmm.out _ BW.out, t1, t2, t3, t4⟩)
  obtain ⟨-, ab, cb, rfl, -⟩ := t1
  obtain ⟨-, aa, ca, rfl, -⟩ := t2
  obtain ⟨-, at', ct, rfl, -⟩ := t3
  obtain ⟨-, ae, ce, rfl, -⟩ := t4
  go_upto_region 2 with fail
  generalize hXX1 : World.alloc w1 _ = X1
  obtain ⟨q0, hA, hzX1⟩ := box1 hXX1
  clear hXX1
  replace BW := Lib.hid (BW.out.trans (hA.mono BW.out.size))
  replace B_X0 := Lib.hid (B_X0.out.trans (hA.mono B_X0.out.size))
  have B_w1 := Lib.hid hA
  clear hA
  have TB := Lib.hid q0
  clear q0
  replace TT := Lib.hid (TT.out.up B_w1.out)
  have x0 := TB.out.cell (i := 0) rfl
  have y0 := (MB.out.below B_X0.out MB.out.lt).cell (i := 0) rfl
  have jw : IntKind.i64.wrap ((m.ways.length : Int) - 1) = ((m.ways.length - 1 : Nat) : Int) := by rw [show ((m.ways.length : Int) - 1) = ((m.ways.length - 1 : Nat) : Int) by omega]; exact IntWalk.i64_in _ (by omega)
  have MBX := Lib.hid (MB.out.below B_X0.out MB.out.lt)
  obtain ⟨N, hN⟩ : ∃ N, m.ways.length - 1 = N := ⟨_, rfl⟩
  rw [hN] at jw
  go_wp2
  clear x0 y0
  go_loopw [23] (fun i wr => ∃ j : Nat, j ≤ N ∧ i = .int .i64 j ∧ (∀ j', j' < j → kindV m l j' = 0) ∧ Below X1.heap.size X1 wr) (fun i _ => N - (intOf i).toNat)
  case atStart => exact ⟨0, Nat.zero_le _, rfl, fun j h => by omega, Below.refl _ _⟩
  case round =>
    obtain ⟨j, hj, rfl, hall, hB⟩ := hrel
    obtain ⟨wo, hwo⟩ : ∃ x, x = wr := ⟨_, rfl⟩
    subst hwo
    have BO := Lib.hid (And.intro hB (BW.out.trans (hB.mono BW.out.size)))
    have HA := Lib.hid hall
    clear hall
    by_cases hjn : j < N
    · have g2 := Lib.hid (f2.out _ _ _ _ wo (TT.out.up hB) j (by omega))
      have TBO := TB.out.below hB TB.out.lt
      obtain ⟨x0, x1, x2, x3, x4, x5, x6, x7, x8, x9, x10, x11, x12, x13, x14⟩ := trip_cells (m := m) TBO
      have hjl : (j : Int) < (N : Int) := by omega
      have kb := hkb.out j
      obtain ⟨kv, hkv⟩ : ∃ x, kindV m l j = x := ⟨_, rfl⟩
      rw [hkv] at kb
      simp only [hkv] at g2
      have HK := Lib.hid hkv
      clear hkv hB TBO
      go_wp2_with fail
      refine g2.out.mono ?_
      rintro e w4 ⟨rfl, b4⟩
      have B4 := Lib.hid (And.intro (BO.out.1.trans (b4.mono BO.out.1.size)) (BO.out.2.trans (b4.mono BO.out.2.size)))
      clear b4 x0 x1 x2 x3 x4 x5 x6 x7 x8 x9 x10 x11 x12 x13 x14
      by_cases hz : kv = 0
      · subst hz
        go_wp2
        go_roundw
        case rel => exact ⟨j + 1, by omega, by go_num, fun j' hj' => by
          rcases Nat.lt_succ_iff_lt_or_eq.1 hj' with h | h
          · exact HA.out j' h
          · rw [h]; exact HK.out, B4.out.1⟩
        case measure => simp [intOf]; omega
      · have d1 : decide (kv > 0) = true := by rw [decide_eq_true_eq]; omega
        have hle := Lib.hid (hfin.out j (by omega) HA.out (fun _ => by rw [HK.out]; exact hz))
        clear hz
        go_wp2
        go_ret3
        refine ⟨?_, B4.out.2⟩
        have e1 := hle.out
        rw [show leadV m l = (j : Int) by rw [leadV, e1], show leadK m l = kv by rw [leadK, e1, if_pos (by omega), HK.out]]
        rfl
    · obtain rfl : j = N := by omega
      have y0 := (MBX.out.below hB MBX.out.lt).cell (i := 0) rfl
      have hle := Lib.hid (hfin.out j (by omega) HA.out (fun h => by omega))
      clear hB
      go_wp2
      go_ret3
      refine ⟨?_, BO.out.2⟩
      have e1 := hle.out
      rw [show leadV m l = (j : Int) by rw [leadV, e1], show leadK m l = 0 by rw [leadK, e1, if_neg (by omega)]]
      rfl
theorem tkeeps_any (m : Msn) (vw vh vr vl : Value) (l : List Int) (w : World) (hm : MsnAt w.heap.size w m vw vh vr) (hl : IntsAt w.heap.size w vl l) :
    Calls Tryz.prog 27 #[.agg (msnCells m vw vh vr), vl] w fun e w' => e = .returned (.tuple #[.int .i64 (kpL m l), .int .i64 (kpK m l), .int .i64 (kpE m l)]) ∧ Below w.heap.size w w' := by
  cases h : radOkB m l
  · simp only [kpL, kpK, kpE, h, Bool.false_eq_true, if_false]
    exact tkeeps_no m vw vh vr vl l w hm hl h
  · simp only [kpL, kpK, kpE, h, if_true]
    exact tkeeps_yes m vw vh vr vl l w hm hl h
end Go.Proofs.YtdkeiadpnnleoaaGreat

namespace Go.Proofs.YtdkeiadpnnleoaaGreat
open Go.RowKit
attribute [local irreducible] wpQuiet

/-- the first ways at which a fix can be taken -/
def fixTo (m : Msn) : Nat → List Int
  | 0 => []
  | k + 1 => if 0 < k ∧ 0 < (wy m.ways k).fix then fixTo m k ++ [(k : Int)] else fixTo m k
def fixL (m : Msn) : List Int := fixTo m m.ways.length
theorem fixTo_len (m : Msn) : ∀ k, (fixTo m k).length ≤ k - 1
  | 0 => by simp [fixTo]
  | k + 1 => by
    have := fixTo_len m k
    unfold fixTo
    split
    · rw [List.length_append]; simp only [List.length_cons, List.length_nil]; omega
    · omega

set_option linter.unusedVariables false in
set_option maxRecDepth 8000 in
set_option maxHeartbeats 1600000 in
theorem fixes_any (m : Msn) (vw vh vr : Value) (w : World) (hm : MsnAt w.heap.size w m vw vh vr) (h41 : m.ways.length ≤ 100000) :
    Calls Tryz.prog 152 #[.agg (msnCells m vw vh vr)] w fun e w' => ∃ v, e = .returned v ∧ IntsAt w'.heap.size w' v (fixL m) ∧ Below w.heap.size w w' ∧ ∀ r, v.ownBlock = some r → w.heap.size ≤ r := by
  obtain ⟨⟨-, a1, c1, rfl, hcw⟩, ⟨-, a2, c2, rfl, -⟩, ⟨-, a3, c3, rfl, -⟩⟩ := hm
  obtain ⟨i0, hi, hz0', hz1', hz2'⟩ := info_parts intInfo
  have HW := Lib.hid hcw
  clear hcw
  unfold msnCells
  have hA := Lib.hid ((Below.refl w.heap.size w).alloc (Nat.le_refl _) (.cells #[.slice a1 m.ways.length (m.ways.length + c1), .slice a2 m.home.length (m.home.length + c2), .int .i64 m.start, .slice a3 m.rocks.length (m.rocks.length + c3), .int .i64 m.speed, .int .i64 m.part, .int .i64 m.flow, .int .i64 m.idle, .int .i64 m.drive, .int .i64 m.battery, .int .i64 m.deadline] 26))
  go_enter Tryz.func152, Tryz.ntmps152
  go_wp2
  go_loopw [3, 9] (fun v i wr => ∃ k : Nat, k ≤ m.ways.length ∧ i = .int .i64 (k : Int) ∧ wr.ownsRow w.heap.size 3 1 v (fixTo m k).length ((fixTo m k).map (Value.int .i64)) ∧ Below w.heap.size w wr) (fun _ i _ => m.ways.length - (intOf i).toNat)
  case atStart => exact ⟨0, by omega, rfl, World.ownsRow_nil _ _ _ _, hA.out⟩
  case round =>
    obtain ⟨k, hk, rfl, hrow, hB⟩ := hrel
    obtain ⟨wo, hwo⟩ : ∃ x, x = wr := ⟨_, rfl⟩
    subst hwo
    have hzB := hB.size
    by_cases hlt : k < m.ways.length
    · obtain ⟨b, o, rfl, hb, hcc⟩ := HW.out.resolve_left (by intro h; rw [h] at hlt; simp at hlt)
      obtain ⟨q0, q1, q2, q3, q4⟩ := hcc k hlt
      have e0 := (hB.cell (p := ⟨b, o + k * 5, none⟩) hb).trans q0
      have e1 := (hB.cell (p := ⟨b, o + k * 5 + 1, none⟩) hb).trans q1
      have e2 := (hB.cell (p := ⟨b, o + k * 5 + 2, none⟩) hb).trans q2
      have e3 := (hB.cell (p := ⟨b, o + k * 5 + 3, none⟩) hb).trans q3
      have e4 := (hB.cell (p := ⟨b, o + k * 5 + 4, none⟩) hb).trans q4
      have hlen := fixTo_len m k
      have hst : Hid (fixTo m (k + 1) = if 0 < k ∧ 0 < (wy m.ways k).fix then fixTo m k ++ [(k : Int)] else fixTo m k) := rfl
      obtain ⟨cl, hcl⟩ : ∃ cl, fixTo m k = cl := ⟨_, rfl⟩
      rw [hcl] at hrow hst hlen
      have dk : decide ((k : Int) < (m.ways.length : Int)) = true := by simp; omega
      have kl : (k : Int) < m.ways.length := by omega
      have k0 : (0 : Int) ≤ k := by omega
      generalize (wy m.ways k).x = px at *
      generalize (wy m.ways k).y = py at *
      generalize (wy m.ways k).fix = pf at *
      generalize (wy m.ways k).wait = pw at *
      generalize (wy m.ways k).back = pb at *
      have HR := Lib.hid hrow
      have HB := Lib.hid hB
      clear hcc q0 q1 q2 q3 q4 hrow hB hcl
      by_cases hp : 0 < k ∧ 0 < pf
      · have d1 : decide ((k : Int) > 0) = true := by rw [decide_eq_true_eq]; omega
        have d2 : decide (pf > 0) = true := by rw [decide_eq_true_eq]; omega
        have HS := Lib.hid (hst.out.trans (if_pos hp))
        have hp1 := hp.1
        have hp2 := hp.2
        clear hst hp
        have R2 := Lib.hid (HR.out.alloc (.cells #[.int .i64 px, .int .i64 py, .int .i64 pf, .int .i64 pw, .int .i64 pb] 65))
        go_wp2_with (at_builtin; refine wpList_append_own _ rfl _ _ 29 rfl w.heap.size 3 i0 (.int .i64 0) 1 8 Tryz.underlying29 hi hz0' hz1' hz2' rfl (by decide) _ _ _ rfl (R2.out.alloc _) ⟨wo.heap.size + 1, 0, none⟩ 1 1 [.int .i64 (k : Int)] rfl rfl (fun j u hj => by have := cell_one_new (wo.alloc (.cells #[.int .i64 px, .int .i64 py, .int .i64 pf, .int .i64 pw, .int .i64 pb] 65)) (.int .i64 (k : Int)) 3 j u hj; rw [World.size_alloc] at this; exact this) (by simp [Value.oneCell']) (by unfold maxLen; omega) (by omega) (by simp; omega) ?_; intro v' w4 hown' hgrow _)
        go_roundw
        case rel =>
          have hb0 : Below w.heap.size wo w4 := (((Below.refl w.heap.size wo).alloc (by omega) _).alloc (by simp; omega) _).grown hgrow (by simp; omega) (fun j ej => (R2.out.lt j ej).1)
          refine ⟨k + 1, by omega, by go_num, ?_, HB.out.trans hb0⟩
          rw [HS.out]
          simpa using hown'
        case measure => simp [intOf]; omega
      · have HS := Lib.hid (hst.out.trans (if_neg hp))
        clear hst
        have R2 := Lib.hid (HR.out.alloc (.cells #[.int .i64 px, .int .i64 py, .int .i64 pf, .int .i64 pw, .int .i64 pb] 65))
        have B2 := Lib.hid (HB.out.alloc hzB (.cells #[.int .i64 px, .int .i64 py, .int .i64 pf, .int .i64 pw, .int .i64 pb] 65))
        by_cases hk0 : 0 < k
        · have d1 : decide ((k : Int) > 0) = true := by rw [decide_eq_true_eq]; omega
          have d2 : decide (pf > 0) = false := by rw [decide_eq_false_iff_not]; omega
          have hp2 : ¬ 0 < pf := by omega
          clear hp
          go_wp2
          go_roundw
          case rel => exact ⟨k + 1, by omega, by go_num, by rw [HS.out]; exact R2.out, B2.out⟩
          case measure => simp [intOf]; omega
        · have d1 : decide ((k : Int) > 0) = false := by rw [decide_eq_false_iff_not]; omega
          clear hp
          go_wp2
          go_roundw
          case rel => exact ⟨k + 1, by omega, by go_num, by rw [HS.out]; exact R2.out, B2.out⟩
          case measure => simp [intOf]; omega
    · obtain rfl : k = m.ways.length := by omega
      have dk : decide ((m.ways.length : Int) < (m.ways.length : Int)) = false := by simp
      have HI := Lib.hid (IntsAt.own hrow (by have := fixTo_len m m.ways.length; omega))
      have HN := Lib.hid (fun r e => (hrow.lt r e).1)
      have HB := Lib.hid hB
      clear hrow hB
      go_wp2
      go_ret
      exact ⟨_, rfl, HI.out, HB.out, HN.out⟩
end Go.Proofs.YtdkeiadpnnleoaaGreat
