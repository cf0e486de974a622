/- package cut: corners. -/
import Derived.Test.YtjjkmonfihomnaaHas
import Derived.Test.YtjjkmonfihomnaaPtRow
import Derived.Test.YtjjkmonfihomnaaCopy
import Derived.Test.YtjjkmonfihomnaaFrame
namespace Go.Proofs.Ytjjkmonfihomnaa
open Go.RowKit
attribute [local irreducible] wpQuiet

/-- the corners of the first k of a polygon that another one has -/
noncomputable def cornersTo (l m : List Pt) : Nat → List Pt
  | 0 => []
  | k + 1 => if hasB m (nth l k) = true then cornersTo l m k ++ [nth l k] else cornersTo l m k
noncomputable def cornersP (l m : List Pt) : List Pt := cornersTo l m l.length
theorem cornersTo_len (l m : List Pt) : ∀ k, (cornersTo l m k).length ≤ k
  | 0 => by simp [cornersTo]
  | k + 1 => by
    have := cornersTo_len l m k
    simp only [cornersTo]
    split
    · simp; omega
    · omega
theorem mem_cornersTo {l m : List Pt} {x : Pt} : ∀ k, x ∈ cornersTo l m k ↔ ∃ j, j < k ∧ nth l j = x ∧ hasB m x = true
  | 0 => by simp [cornersTo]
  | k + 1 => by
    have ih := mem_cornersTo (l := l) (m := m) (x := x) k
    simp only [cornersTo]
    by_cases h : hasB m (nth l k) = true
    · rw [if_pos h]
      simp only [List.mem_append, List.mem_singleton, ih]
      constructor
      · rintro (⟨j, h1, h2, h3⟩ | rfl)
        · exact ⟨j, by omega, h2, h3⟩
        · exact ⟨k, by omega, rfl, h⟩
      · rintro ⟨j, h1, h2, h3⟩
        by_cases e : j = k
        · exact .inr (by rw [← h2, e])
        · exact .inl ⟨j, by omega, h2, h3⟩
    · rw [if_neg h, ih]
      constructor
      · rintro ⟨j, h1, h2, h3⟩; exact ⟨j, by omega, h2, h3⟩
      · rintro ⟨j, h1, h2, h3⟩
        refine ⟨j, ?_, h2, h3⟩
        have : j ≠ k := by intro e; rw [← h2, e] at h3; exact h h3
        omega

set_option linter.unusedSimpArgs false in
set_option maxRecDepth 4000 in
set_option maxHeartbeats 1600000 in
theorem corners_any (vp vq : Value) (l m : List Pt) (w : World) (hp : PtsAt w.heap.size w vp l) (hq : PtsAt w.heap.size w vq m) (hs : l.length ≤ 1000000) :
    Calls Try.prog 67 #[vp, vq] w (PtsQ (cornersP l m) w) := by
  have HQ := Lib.hid hq
  obtain ⟨hll, a, cap, rfl, hc⟩ := hp
  obtain ⟨aq, capq, rfl⟩ := hq.len
  have HC := Lib.hid hc
  obtain ⟨i0, hi, hz0', hz1', hz2'⟩ := info_parts ptInfo
  clear hc hq
  go_enter Try.func67, Try.ntmps67
  go_wp2
  go_loopw [5, 12] (fun v i wr => ∃ k : Nat, k ≤ l.length ∧ i = .int .i64 (k : Int) ∧ wr.ownsRow w.heap.size 31 2 v (cornersTo l m k).length (ptCells (cornersTo l m k)) ∧ Below w.heap.size w wr) (fun _ i _ => l.length - (intOf i).toNat)
  case atStart => exact ⟨0, by omega, rfl, World.ownsRow_nil _ _ _ _, Below.refl _ _⟩
  case round =>
    obtain ⟨k, hk, rfl, hrow, hB⟩ := hrel
    have hzB := hB.size
    by_cases hlt : k < l.length
    · obtain ⟨b, o, rfl, hb, hcc⟩ : ∃ b o, a = some ⟨b, o, none⟩ ∧ b < w.heap.size ∧ ∀ j, j < l.length → w.cell? ⟨b, o + j * 2, none⟩ = some (.int .i64 (nth l j).x) ∧ w.cell? ⟨b, o + j * 2 + 1, none⟩ = some (.int .i64 (nth l j).y) := by
        rcases HC.out with h | h
        · rw [h] at hlt; simp at hlt
        · exact h
      obtain ⟨q0, q1⟩ := hcc k hlt
      have e0 := (hB.cell (p := ⟨b, o + k * 2, none⟩) hb).trans q0
      have e1 := (hB.cell (p := ⟨b, o + k * 2 + 1, none⟩) hb).trans q1
      have hlen := cornersTo_len l m k
      have hst : Hid (cornersTo l m (k + 1) = if hasB m ⟨(nth l k).x, (nth l k).y⟩ = true then cornersTo l m k ++ [⟨(nth l k).x, (nth l k).y⟩] else cornersTo l m k) := rfl
      obtain ⟨cl, hcl⟩ : ∃ cl, cornersTo l m k = cl := ⟨_, rfl⟩
      rw [hcl] at hrow hst hlen
      have hBa := hB.alloc hzB (.cells #[.int .i64 (nth l k).x, .int .i64 (nth l k).y] 31)
      have hh := has_any (.slice aq m.length (m.length + capq)) m ⟨(nth l k).x, (nth l k).y⟩ (wr.alloc (.cells #[.int .i64 (nth l k).x, .int .i64 (nth l k).y] 31)) ((HQ.out.below hBa).mono hBa.size)
      have hN := Has.new wr #[.int .i64 (nth l k).x, .int .i64 (nth l k).y] 31
      have dk : decide ((k : Int) < (l.length : Int)) = true := by simp; omega
      have kl : (k : Int) < l.length := by omega
      have k0 : (0 : Int) ≤ k := by omega
      generalize hasE m ⟨(nth l k).x, (nth l k).y⟩ = he at *
      have HH := Lib.hid hh
      have HR := Lib.hid (hrow.alloc (.cells #[.int .i64 (nth l k).x, .int .i64 (nth l k).y] 31))
      have HBa := Lib.hid hBa
      have HN := Lib.hid hN
      clear hcc q0 q1 hrow hh hBa hB hN hcl
      cases hin : hasB m ⟨(nth l k).x, (nth l k).y⟩
      · rw [hin] at HH hst
        clear hin
        generalize (nth l k).x = px at *
        generalize (nth l k).y = py at *
        go_wp2_with fail
        refine HH.out.mono ?_
        rintro e w2 ⟨rfl, hb2⟩
        have R2 := Lib.hid (prow_below HR.out hb2)
        have B2 := Lib.hid (HBa.out.trans (hb2.mono HBa.out.size))
        clear hb2
        go_wp2
        go_roundw
        case rel => exact ⟨k + 1, by omega, by go_num, by rw [hst.out]; exact R2.out, B2.out⟩
        case measure => simp [intOf]; omega
      · rw [hin] at HH hst
        clear hin
        generalize (nth l k).x = px at *
        generalize (nth l k).y = py at *
        go_wp2_with fail
        refine HH.out.mono ?_
        rintro e w2 ⟨rfl, hb2⟩
        have R2 := Lib.hid (prow_below HR.out hb2)
        have B2 := Lib.hid (HBa.out.trans (hb2.mono HBa.out.size))
        have N2 := HN.out.below hb2 HN.out.lt
        have x0 : w2.cell? ⟨wr.heap.size, 0, none⟩ = some (.int .i64 px) := N2.cell (i := 0) rfl
        have x1 : w2.cell? ⟨wr.heap.size, 1, none⟩ = some (.int .i64 py) := N2.cell (i := 1) rfl
        have hz2 := B2.out.size
        clear hb2 N2
        go_wp2_with (at_builtin; refine wpList_append_own _ rfl _ _ 22 rfl w.heap.size 31 i0 (.agg #[.int .i64 0, .int .i64 0]) 2 16 Try.underlying22 hi hz0' hz1' hz2' rfl (by decide) _ _ _ rfl (R2.out.alloc _) ⟨w2.heap.size, 0, none⟩ 1 1 [.int .i64 px, .int .i64 py] rfl rfl (pt_new _ _ _) (by simp [Value.oneCell']) (by unfold maxLen; omega) (by omega) (by simp; omega) ?_; intro v' w4 hown' hgrow _)
        go_roundw
        case rel =>
          have hb0 : Below w.heap.size w2 w4 := ((Below.refl w.heap.size w2).alloc (by omega) _).grown hgrow (by simp; omega) (fun j ej => (R2.out.lt j ej).1)
          refine ⟨k + 1, by omega, by go_num, ?_, B2.out.trans hb0⟩
          rw [hst.out]
          simpa [ptCells] using hown'
        case measure => simp [intOf]; omega
    · obtain rfl : k = l.length := by omega
      have dk : decide ((l.length : Int) < (l.length : Int)) = false := by simp
      have HI := Lib.hid (PtsAt.own hrow (by have := cornersTo_len l m l.length; omega))
      have HB := Lib.hid hB
      clear hrow hB
      go_wp2
      go_ret
      exact ⟨_, rfl, HI.out, HB.out⟩
end Go.Proofs.Ytjjkmonfihomnaa
