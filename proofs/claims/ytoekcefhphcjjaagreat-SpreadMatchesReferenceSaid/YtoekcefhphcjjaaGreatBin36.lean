/- landfallref06.Moved. (Printed by tools/mkmoved.py.) -/
import Derived.Test.YtoekcefhphcjjaaGreatBin20
import Derived.Test.YtoekcefhphcjjaaGreatBin15
import Derived.Test.YtoekcefhphcjjaaGreatBin09
namespace Go.Proofs.YtoekcefhphcjjaaGreat
open Go.RowKit
attribute [local irreducible] wpQuiet

theorem mvL_take (d : Pt) (l : List Pt) {k : Nat} (h : k < l.length) : mvL d (l.take (k + 1)) = mvL d (l.take k) ++ [mvP d (nth l k)] := by
  have e : nth l k = l[k] := by simp [nth, List.getD_eq_getElem?_getD, List.getElem?_eq_getElem h]
  unfold mvL
  rw [List.take_add_one, List.getElem?_eq_getElem h, List.map_append, e]
  rfl
set_option linter.unusedSimpArgs false in
set_option maxRecDepth 8000 in
set_option maxHeartbeats 3000000 in
theorem moved_any (vl : Value) (l : List Pt) (d : Pt) (w : World) (hp : PtsAt w.heap.size w vl l) (hs : l.length ≤ 64) (hpl : ∀ k, k < l.length → placeP (nth l k) = true) (hd : placeP d = true) :
    Calls Tryz.prog 133 #[vl, .agg #[.int .i64 d.x, .int .i64 d.y]] w fun e w' => ∃ v, e = .returned v ∧ w'.ownsRow w.heap.size 23 2 v l.length (ptCells (mvL d l)) ∧ Below w.heap.size w w' := by
  obtain ⟨hll, a, cap, rfl, hc⟩ := hp
  have HC := Lib.hid hc
  have HPL := Lib.hid hpl
  have pd := placeB_true hd
  obtain ⟨i0, hi, hz0', hz1', hz2'⟩ := info_parts ptInfo
  obtain ⟨bx, by'⟩ := d
  simp only at pd
  have hA := (Below.refl w.heap.size w).alloc (Nat.le_refl _) (.cells #[.int .i64 bx, .int .i64 by'] 23)
  have HN := Lib.hid (Has.new w #[.int .i64 bx, .int .i64 by'] 23)
  have HA := Lib.hid hA
  have hz1 : (w.alloc (.cells #[.int .i64 bx, .int .i64 by'] 23)).heap.size = w.heap.size + 1 := by simp
  clear hc hpl hd hA
  go_enter Tryz.func133, Tryz.ntmps133
  go_wp2
  go_loopw [5, 6] (fun v i wr => ∃ k : Nat, k ≤ l.length ∧ i = .int .i64 (k : Int) ∧ wr.ownsRow (w.heap.size + 1) 23 2 v k (ptCells (mvL ⟨bx, by'⟩ (l.take k))) ∧ Below (w.heap.size + 1) (w.alloc (.cells #[.int .i64 bx, .int .i64 by'] 23)) wr) (fun _ i _ => l.length - (intOf i).toNat)
  case atStart => exact ⟨0, by omega, rfl, World.ownsRow_nil _ _ _ _, Below.refl _ _⟩
  case round =>
    obtain ⟨k, hk, rfl, hrow, hB⟩ := hrel
    have hzB := hB.size
    rw [hz1] at hzB
    have hBw := HA.out.trans (hB.mono (by omega))
    by_cases hlt : k < l.length
    · obtain ⟨b, o, rfl, hb, hcc⟩ : ∃ b o, a = some ⟨b, o, none⟩ ∧ b < w.heap.size ∧ ∀ j, j < l.length → w.cell? ⟨b, o + j * 2, none⟩ = some (.int .i64 (nth l j).x) ∧ w.cell? ⟨b, o + j * 2 + 1, none⟩ = some (.int .i64 (nth l j).y) := by
        rcases HC.out with h | h
        · rw [h] at hlt; simp at hlt
        · exact h
      obtain ⟨q0, q1⟩ := hcc k hlt
      have pk := placeB_true (HPL.out k hlt)
      have hst := Lib.hid (mvL_take ⟨bx, by'⟩ l hlt)
      have hmv : Hid (mvP ⟨bx, by'⟩ (nth l k) = ⟨(nth l k).x + bx, (nth l k).y + by'⟩) := rfl
      obtain ⟨px, hpx⟩ : ∃ px, (nth l k).x = px := ⟨_, rfl⟩
      obtain ⟨py, hpy⟩ : ∃ py, (nth l k).y = py := ⟨_, rfl⟩
      rw [hpx, hpy] at pk hmv
      rw [hpx] at q0
      rw [hpy] at q1
      have N := HN.out.below hB (by omega)
      have c0 := (hBw.cell (p := ⟨b, o + k * 2, none⟩) hb).trans q0
      have c1 := (hBw.cell (p := ⟨b, o + k * 2 + 1, none⟩) hb).trans q1
      have c2 := N.cell (i := 0) rfl
      have c3 := N.cell (i := 1) rfl
      have m1 : IntKind.i64.wrap (px + bx) = px + bx := IntWalk.i64_in _ (by omega)
      have m2 : IntKind.i64.wrap (py + by') = py + by' := IntWalk.i64_in _ (by omega)
      have dk : decide ((k : Int) < (l.length : Int)) = true := by simp; omega
      have kl : (k : Int) < l.length := by omega
      have k0 : (0 : Int) ≤ k := by omega
      have HR := Lib.hid hrow
      have HB := Lib.hid hB
      have C01 := Lib.hid (And.intro c0 (And.intro c1 (And.intro c2 c3)))
      have hbz : b < wr.heap.size := by omega
      clear hcc q0 q1 hrow hB hBw c0 c1 c2 c3 N hpx hpy pk
      go_wp2
      refine (wpIn_wide (n := 9)).1 ?_
      refine wpIn_region_sched (lets_wide _) 20 (fun X => X.cell? ⟨b, o + k * 2, none⟩ = some (.int .i64 px) ∧ X.cell? ⟨b, o + k * 2 + 1, none⟩ = some (.int .i64 py) ∧ X.cell? ⟨w.heap.size, 0, none⟩ = some (.int .i64 bx) ∧ X.cell? ⟨w.heap.size, 1, none⟩ = some (.int .i64 by')) (by kernel_rfl) (by kernel_rfl) (by kernel_rfl) fun hH inv0 => ?_
      refine sched_take hH (i := 0) (v := u5) (drop_get rfl) (by omega) inv0 (by kernel_rfl) (by kernel_rfl) rfl (fun X hX => ?_) fun inv1 => ?_
      · obtain ⟨x0, x1, x2, x3⟩ := hX; go_simp
      simp only [Act.put, List.setIfInBounds_toArray, List.set_cons_zero, List.set_cons_succ]
      refine sched_take hH (i := 1) (v := (.slice (some ⟨b, o, none⟩) l.length (l.length + cap))) (drop_get rfl) (by omega) inv1 (by kernel_rfl) (by kernel_rfl) rfl (fun X hX => ?_) fun inv2 => ?_
      · obtain ⟨x0, x1, x2, x3⟩ := hX; go_simp
      simp only [Act.put, List.setIfInBounds_toArray, List.set_cons_zero, List.set_cons_succ]
      refine sched_take hH (i := 2) (v := (.int .i64 (k : Int))) (drop_get rfl) (by omega) inv2 (by kernel_rfl) (by kernel_rfl) rfl (fun X hX => ?_) fun inv3 => ?_
      · obtain ⟨x0, x1, x2, x3⟩ := hX; go_simp
      simp only [Act.put, List.setIfInBounds_toArray, List.set_cons_zero, List.set_cons_succ]
      refine sched_take hH (i := 3) (v := (.pointer (some ⟨b, o + k * 2, none⟩))) (drop_get rfl) (by omega) inv3 (by kernel_rfl) (by kernel_rfl) rfl (fun X hX => ?_) fun inv4 => ?_
      · obtain ⟨x0, x1, x2, x3⟩ := hX; go_simp
      simp only [Act.put, List.setIfInBounds_toArray, List.set_cons_zero, List.set_cons_succ]
      refine sched_take hH (i := 4) (v := (.pointer (some ⟨b, o + k * 2, none⟩))) (drop_get rfl) (by omega) inv4 (by kernel_rfl) (by kernel_rfl) rfl (fun X hX => ?_) fun inv5 => ?_
      · obtain ⟨x0, x1, x2, x3⟩ := hX; go_simp
      simp only [Act.put, List.setIfInBounds_toArray, List.set_cons_zero, List.set_cons_succ]
      refine sched_take hH (i := 5) (v := (.int .i64 px)) (drop_get rfl) (by omega) inv5 (by kernel_rfl) (by kernel_rfl) rfl (fun X hX => ?_) fun inv6 => ?_
      · obtain ⟨x0, x1, x2, x3⟩ := hX; go_simp
      simp only [Act.put, List.setIfInBounds_toArray, List.set_cons_zero, List.set_cons_succ]
      refine sched_take hH (i := 6) (v := (.pointer (some ⟨w.heap.size, 0, none⟩))) (drop_get rfl) (by omega) inv6 (by kernel_rfl) (by kernel_rfl) rfl (fun X hX => ?_) fun inv7 => ?_
      · obtain ⟨x0, x1, x2, x3⟩ := hX; go_simp
      simp only [Act.put, List.setIfInBounds_toArray, List.set_cons_zero, List.set_cons_succ]
      refine sched_take hH (i := 7) (v := (.int .i64 bx)) (drop_get rfl) (by omega) inv7 (by kernel_rfl) (by kernel_rfl) rfl (fun X hX => ?_) fun inv8 => ?_
      · obtain ⟨x0, x1, x2, x3⟩ := hX; go_simp
      simp only [Act.put, List.setIfInBounds_toArray, List.set_cons_zero, List.set_cons_succ]
      refine sched_take hH (i := 8) (v := (.int .i64 (px + bx))) (drop_get rfl) (by omega) inv8 (by kernel_rfl) (by kernel_rfl) rfl (fun X hX => ?_) fun inv9 => ?_
      · obtain ⟨x0, x1, x2, x3⟩ := hX; go_simp
      simp only [Act.put, List.setIfInBounds_toArray, List.set_cons_zero, List.set_cons_succ]
      refine sched_take hH (i := 9) (v := (.slice (some ⟨b, o, none⟩) l.length (l.length + cap))) (drop_get rfl) (by omega) inv9 (by kernel_rfl) (by kernel_rfl) rfl (fun X hX => ?_) fun inv10 => ?_
      · obtain ⟨x0, x1, x2, x3⟩ := hX; go_simp
      simp only [Act.put, List.setIfInBounds_toArray, List.set_cons_zero, List.set_cons_succ]
      refine sched_take hH (i := 10) (v := (.int .i64 (k : Int))) (drop_get rfl) (by omega) inv10 (by kernel_rfl) (by kernel_rfl) rfl (fun X hX => ?_) fun inv11 => ?_
      · obtain ⟨x0, x1, x2, x3⟩ := hX; go_simp
      simp only [Act.put, List.setIfInBounds_toArray, List.set_cons_zero, List.set_cons_succ]
      refine sched_take hH (i := 11) (v := (.pointer (some ⟨b, o + k * 2, none⟩))) (drop_get rfl) (by omega) inv11 (by kernel_rfl) (by kernel_rfl) rfl (fun X hX => ?_) fun inv12 => ?_
      · obtain ⟨x0, x1, x2, x3⟩ := hX; go_simp
      simp only [Act.put, List.setIfInBounds_toArray, List.set_cons_zero, List.set_cons_succ]
      refine sched_take hH (i := 12) (v := (.pointer (some ⟨b, o + k * 2 + 1, none⟩))) (drop_get rfl) (by omega) inv12 (by kernel_rfl) (by kernel_rfl) rfl (fun X hX => ?_) fun inv13 => ?_
      · obtain ⟨x0, x1, x2, x3⟩ := hX; go_simp
      simp only [Act.put, List.setIfInBounds_toArray, List.set_cons_zero, List.set_cons_succ]
      refine sched_take hH (i := 13) (v := (.int .i64 py)) (drop_get rfl) (by omega) inv13 (by kernel_rfl) (by kernel_rfl) rfl (fun X hX => ?_) fun inv14 => ?_
      · obtain ⟨x0, x1, x2, x3⟩ := hX; go_simp
      simp only [Act.put, List.setIfInBounds_toArray, List.set_cons_zero, List.set_cons_succ]
      refine sched_take hH (i := 14) (v := (.pointer (some ⟨w.heap.size, 1, none⟩))) (drop_get rfl) (by omega) inv14 (by kernel_rfl) (by kernel_rfl) rfl (fun X hX => ?_) fun inv15 => ?_
      · obtain ⟨x0, x1, x2, x3⟩ := hX; go_simp
      simp only [Act.put, List.setIfInBounds_toArray, List.set_cons_zero, List.set_cons_succ]
      refine sched_take hH (i := 15) (v := (.int .i64 by')) (drop_get rfl) (by omega) inv15 (by kernel_rfl) (by kernel_rfl) rfl (fun X hX => ?_) fun inv16 => ?_
      · obtain ⟨x0, x1, x2, x3⟩ := hX; go_simp
      simp only [Act.put, List.setIfInBounds_toArray, List.set_cons_zero, List.set_cons_succ]
      refine sched_take hH (i := 16) (v := (.int .i64 (py + by'))) (drop_get rfl) (by omega) inv16 (by kernel_rfl) (by kernel_rfl) rfl (fun X hX => ?_) fun inv17 => ?_
      · obtain ⟨x0, x1, x2, x3⟩ := hX; go_simp
      simp only [Act.put, List.setIfInBounds_toArray, List.set_cons_zero, List.set_cons_succ]
      refine sched_take hH (i := 17) (v := (.agg #[.int .i64 (px + bx), .int .i64 (py + by')])) (drop_get rfl) (by omega) inv17 (by kernel_rfl) (by kernel_rfl) rfl (fun X hX => ?_) fun inv18 => ?_
      · obtain ⟨x0, x1, x2, x3⟩ := hX; go_simp
      simp only [Act.put, List.setIfInBounds_toArray, List.set_cons_zero, List.set_cons_succ]
      have D : Below wr.heap.size wr wr.drew := Below.drew (Below.refl _ _)
      have R0 := prow_below HR.out D
      have B0 := HB.out.trans (D.mono (by omega))
      have S0 : wr.drew.cell? ⟨b, o + k * 2, none⟩ = some (.int .i64 px) ∧ wr.drew.cell? ⟨b, o + k * 2 + 1, none⟩ = some (.int .i64 py) ∧ wr.drew.cell? ⟨w.heap.size, 0, none⟩ = some (.int .i64 bx) ∧ wr.drew.cell? ⟨w.heap.size, 1, none⟩ = some (.int .i64 by') := C01.out
      have z0 : w.heap.size + 1 ≤ wr.drew.heap.size := hzB
      have zb : b < wr.drew.heap.size := hbz
      generalize wr.drew = X0 at R0 B0 S0 z0 zb ⊢
      clear inv0 inv1 inv2 inv3 inv4 inv5 inv6 inv7 inv8 inv9 inv10 inv11 inv12 inv13 inv14 inv15 inv16 inv17 inv18 hH D
      refine sched_all (rs := [18]) (by kernel_rfl) (by simp) S0 (by simp) (fun i hi' => ?_)
      simp only [List.mem_cons, List.not_mem_nil, or_false] at hi'
      subst hi'
      refine okOp_run (drop_get rfl) rfl (v := .slice (some ⟨X0.heap.size, 0, none⟩) 1 1) (w' := X0.alloc (.cells #[.int .i64 (px + bx), .int .i64 (py + by')] 23)) (by go_simp) ?_
      simp only [Act.put, List.setIfInBounds_toArray, List.set_cons_zero, List.set_cons_succ]
      have A0 := (Below.refl X0.heap.size X0).alloc (Nat.le_refl _) (.cells #[.int .i64 (px + bx), .int .i64 (py + by')] 23)
      have cN := pt_new X0 (px + bx) (py + by')
      have R1 := prow_below R0 A0
      have B1 := B0.trans (A0.mono (by omega))
      have S1 := And.intro ((A0.cell (p := ⟨b, o + k * 2, none⟩) zb).trans S0.1) (And.intro ((A0.cell (p := ⟨b, o + k * 2 + 1, none⟩) zb).trans S0.2.1) (And.intro ((A0.cell (p := ⟨w.heap.size, 0, none⟩) z0).trans S0.2.2.1) ((A0.cell (p := ⟨w.heap.size, 1, none⟩) z0).trans S0.2.2.2)))
      have z1 := A0.size
      generalize X0.alloc (.cells #[.int .i64 (px + bx), .int .i64 (py + by')] 23) = X1 at *
      refine sched_all (rs := [19]) (by kernel_rfl) (by simp) S1 (by simp) (fun i hi' => ?_)
      simp only [List.mem_cons, List.not_mem_nil, or_false] at hi'
      subst hi'
      refine okOp_append (drop_get rfl) rfl (.tmp 13) (.tmp 31) 25 rfl (w.heap.size + 1) 23 i0 (.agg #[.int .i64 0, .int .i64 0]) 2 16 Tryz.underlying25 hi hz0' hz1' hz2' rfl (by decide) _ _ _ rfl R1 ⟨X0.heap.size, 0, none⟩ 1 1 [.int .i64 (px + bx), .int .i64 (py + by')] rfl rfl cN (by simp [Value.oneCell']) (by unfold maxLen; omega) (by omega) (by omega) ?_
      intro v' X2 hown' hgrow _
      simp only [Act.put, List.setIfInBounds_toArray, List.set_cons_zero, List.set_cons_succ]
      have B2 : Below (w.heap.size + 1) X1 X2 := (Below.refl _ X1).grown hgrow (by omega) (fun j ej => (R1.lt j ej).1)
      refine sched_done (by kernel_rfl) ⟨(B2.cell (p := ⟨b, o + k * 2, none⟩) (Nat.lt_succ_of_lt hb)).trans S1.1, (B2.cell (p := ⟨b, o + k * 2 + 1, none⟩) (Nat.lt_succ_of_lt hb)).trans S1.2.1, (B2.cell (p := ⟨w.heap.size, 0, none⟩) (Nat.lt_succ_self _)).trans S1.2.2.1, (B2.cell (p := ⟨w.heap.size, 1, none⟩) (Nat.lt_succ_self _)).trans S1.2.2.2⟩ ?_
      simp only [List.drop_succ_cons, List.drop_zero]
      have B3 := Lib.hid (B1.trans B2)
      have O3 := Lib.hid hown'
      clear R0 R1 B0 B1 B2 S0 S1 hown' hgrow A0 cN
      gi_wp2
      go_wp2
      go_roundw
      case rel =>
        refine ⟨k + 1, by omega, by go_num, ?_, B3.out⟩
        rw [hst.out, hmv.out, ptCells_append]
        exact O3.out
      case measure => simp [intOf]; omega
    · obtain rfl : k = l.length := by omega
      have dk : decide ((l.length : Int) < (l.length : Int)) = false := by simp
      rw [List.take_length] at hrow
      have HI := Lib.hid (show wr.ownsRow w.heap.size 23 2 u5 l.length (ptCells (mvL ⟨bx, by'⟩ l)) from ⟨hrow.1, hrow.2.imp id fun ⟨g, cap, cur, h1, h2, h3⟩ => ⟨g, cap, cur, h1, by omega, h3⟩⟩)
      have HB := Lib.hid hBw
      clear hrow hB hBw
      go_wp2
      go_ret
      exact ⟨_, rfl, HI.out, HB.out⟩
end Go.Proofs.YtoekcefhphcjjaaGreat
