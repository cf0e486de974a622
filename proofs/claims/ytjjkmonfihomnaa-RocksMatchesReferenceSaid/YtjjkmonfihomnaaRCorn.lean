/- landfallref04's Corners and Lies. -/
import Derived.Test.YtjjkmonfihomnaaInside
import Derived.Test.YtjjkmonfihomnaaCorners
import Derived.Test.YtjjkmonfihomnaaTouchB
namespace Go.Proofs.Ytjjkmonfihomnaa
open Go.RowKit
attribute [local irreducible] wpQuiet

set_option linter.unusedSimpArgs false in
set_option maxRecDepth 4000 in
set_option maxHeartbeats 1600000 in
/-- of a list of places -/
theorem rcorners_any (vp vq : Value) (l m : List Pt) (w : World) (hp : PtsAt w.heap.size w vp l) (hq : PtsAt w.heap.size w vq m) (hs : l.length ≤ 1000000) (hpl : ∀ k, k < l.length → placeP (nth l k) = true) (hm : goValid m = true) :
    Calls Try.prog 49 #[vp, vq] w (PtsQ (cornersP l m) w) := by
  have HQ := Lib.hid hq
  have GM := Lib.hid (goValid_true hm)
  have HPL := Lib.hid hpl
  obtain ⟨hll, a, cap, rfl, hc⟩ := hp
  obtain ⟨aq, capq, rfl⟩ := hq.len
  have HC := Lib.hid hc
  obtain ⟨i0, hi, hz0', hz1', hz2'⟩ := info_parts ptInfo
  clear hc hq hpl hm
  go_enter Try.func49, Try.ntmps49
  go_wp2
  go_loopw [5, 6] (fun v i wr => ∃ k : Nat, k ≤ l.length ∧ i = .int .i64 (k : Int) ∧ wr.ownsRow w.heap.size 31 2 v (cornersTo l m k).length (ptCells (cornersTo l m k)) ∧ Below w.heap.size w wr) (fun _ i _ => l.length - (intOf i).toNat)
  case atStart => exact ⟨0, by omega, rfl, World.ownsRow_nil _ _ _ _, Below.refl _ _⟩
  case round =>
    obtain ⟨k, hk, rfl, hrow, hB⟩ := hrel
    have hzB := hB.size
    by_cases hlt : k < l.length
    · obtain ⟨b, o, rfl, hb, hcc⟩ : ∃ b o, a = some ⟨b, o, none⟩ ∧ b < w.heap.size ∧ ∀ j, j < l.length → w.cell? ⟨b, o + j * 2, none⟩ = some (.int .i64 (nth l j).x) ∧ w.cell? ⟨b, o + j * 2 + 1, none⟩ = some (.int .i64 (nth l j).y) := by
        rcases HC.out with h | h
        · rw [h] at hlt; simp at hlt
        · exact h
      obtain ⟨q0, q1⟩ := hcc k hlt
      have e0 := (hB.cell (p := ⟨b, o + k * 2, none⟩) hb).trans q0
      have e1 := (hB.cell (p := ⟨b, o + k * 2 + 1, none⟩) hb).trans q1
      have E01 := Lib.hid (And.intro q0 q1)
      have hlen := cornersTo_len l m k
      have hpx := HPL.out k hlt
      have hst : Hid (cornersTo l m (k + 1) = if inside m ⟨(nth l k).x, (nth l k).y⟩ = true then cornersTo l m k ++ [⟨(nth l k).x, (nth l k).y⟩] else cornersTo l m k) := by
        show _ = _
        have := hasB_iff GM.out hpx
        simp only [cornersTo, show (hasB m (nth l k) = true) = (inside m (nth l k) = true) from propext this]
      obtain ⟨cl, hcl⟩ : ∃ cl, cornersTo l m k = cl := ⟨_, rfl⟩
      rw [hcl] at hrow hst hlen
      have hh := rinside_any (.slice aq m.length (m.length + capq)) m ⟨(nth l k).x, (nth l k).y⟩ wr ((HQ.out.below hB).mono hB.size) GM.out hpx
      have dk : decide ((k : Int) < (l.length : Int)) = true := by simp; omega
      have kl : (k : Int) < l.length := by omega
      have k0 : (0 : Int) ≤ k := by omega
      have HH := Lib.hid hh
      have HR := Lib.hid hrow
      have HB := Lib.hid hB
      clear hcc q0 q1 hrow hh hB hcl hpx
      cases hin : inside m ⟨(nth l k).x, (nth l k).y⟩
      · rw [hin] at HH hst
        clear hin
        generalize (nth l k).x = px at *
        generalize (nth l k).y = py at *
        go_wp2_with fail
        refine HH.out.mono ?_
        rintro e w2 ⟨rfl, hb2⟩
        have R2 := Lib.hid (prow_below HR.out hb2)
        have B2 := Lib.hid (HB.out.trans (hb2.mono hzB))
        clear hb2
        go_wp2
        go_roundw
        case rel => exact ⟨k + 1, by omega, by go_num, by rw [hst.out]; exact R2.out, B2.out⟩
        case measure => simp [intOf]; omega
      · rw [hin] at HH hst
        clear hin
        generalize (nth l k).x = px at *
        generalize (nth l k).y = py at *
        go_wp2_with fail
        refine HH.out.mono ?_
        rintro e w2 ⟨rfl, hb2⟩
        have R2 := Lib.hid (prow_below HR.out hb2)
        have B2 := Lib.hid (HB.out.trans (hb2.mono hzB))
        have x0 := (B2.out.cell (p := ⟨b, o + k * 2, none⟩) hb).trans E01.out.1
        have x1 := (B2.out.cell (p := ⟨b, o + k * 2 + 1, none⟩) hb).trans E01.out.2
        have hz2 := B2.out.size
        clear hb2 e0 e1
        go_wp2_with (at_builtin; refine wpList_append_own _ rfl _ _ 22 rfl w.heap.size 31 i0 (.agg #[.int .i64 0, .int .i64 0]) 2 16 Try.underlying22 hi hz0' hz1' hz2' rfl (by decide) _ _ _ rfl (R2.out.alloc _) ⟨w2.heap.size, 0, none⟩ 1 1 [.int .i64 px, .int .i64 py] rfl rfl (pt_new _ _ _) (by simp [Value.oneCell']) (by unfold maxLen; omega) (by omega) (by simp; omega) ?_; intro v' w4 hown' hgrow _)
        go_roundw
        case rel =>
          have hb0 : Below w.heap.size w2 w4 := ((Below.refl w.heap.size w2).alloc (by omega) _).grown hgrow (by simp; omega) (fun j ej => (R2.out.lt j ej).1)
          refine ⟨k + 1, by omega, by go_num, ?_, B2.out.trans hb0⟩
          rw [hst.out]
          simpa [ptCells] using hown'
        case measure => simp [intOf]; omega
    · obtain rfl : k = l.length := by omega
      have dk : decide ((l.length : Int) < (l.length : Int)) = false := by simp
      have HI := Lib.hid (PtsAt.own hrow (by have := cornersTo_len l m l.length; omega))
      have HB := Lib.hid hB
      clear hrow hB
      go_wp2
      go_ret
      exact ⟨_, rfl, HI.out, HB.out⟩

/-- all corners lie in the other one -/
noncomputable def liesB (l m : List Pt) : Bool := decide ((cornersP l m).length = l.length)
theorem cornersTo_all {l m : List Pt} : ∀ k, (cornersTo l m k).length = k → ∀ j, j < k → hasB m (nth l j) = true
  | 0, _, j, hj => by omega
  | k + 1, h, j, hj => by
    have hl := cornersTo_len l m k
    simp only [cornersTo] at h
    split at h
    · rename_i hb
      simp only [List.length_append, List.length_singleton] at h
      by_cases e : j = k
      · rw [e]; exact hb
      · exact cornersTo_all k (by omega) j (by omega)
    · omega
theorem lies_inside {l m : List Pt} (h : liesB l m = true) : ∀ k, k < l.length → inside m (nth l k) = true := fun k hk => by
  unfold liesB at h
  rw [decide_eq_true_eq] at h
  have := cornersTo_all l.length h k hk
  unfold hasB at this
  simp only [Bool.and_eq_true] at this
  exact this.2
theorem lies_any (vp vq : Value) (l m : List Pt) (w : World) (hp : PtsAt w.heap.size w vp l) (hq : PtsAt w.heap.size w vq m) (hl : goValid l = true) (hm : goValid m = true) :
    Calls Try.prog 23 #[vp, vq] w fun e w' => e = .returned (.bool (liesB l m)) ∧ Below w.heap.size w w' := by
  have GL := goValid_true hl
  have l64 := GL.2.1
  have f := Lib.hid (rcorners_any vp vq l m w hp hq (by omega) (fun k hk => (GL.2.2.1 k hk).1) hm)
  obtain ⟨ap, capp, rfl⟩ := hp.len
  obtain ⟨aq, capq, rfl⟩ := hq.len
  have he : Hid (decide (((cornersP l m).length : Int) = (l.length : Int)) = liesB l m) := by
    show _ = _
    unfold liesB
    rw [Bool.eq_iff_iff]; simp only [decide_eq_true_eq]; omega
  clear hp hq GL
  go_enter Try.func23, Try.ntmps23
  go_wp2_with fail
  refine f.out.mono ?_
  rintro e w1 ⟨v, rfl, h1, b1⟩
  obtain ⟨a1, cap1, rfl⟩ := h1.len
  have B1 := Lib.hid b1
  clear b1 h1
  go_wp2
  go_ret
  exact ⟨by rw [← he.out]; first | rfl | (congr 2; rw [Bool.eq_iff_iff]; simp), B1.out⟩
end Go.Proofs.Ytjjkmonfihomnaa
