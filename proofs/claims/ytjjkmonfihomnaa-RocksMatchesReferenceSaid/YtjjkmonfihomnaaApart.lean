/- package cut: shared, Apart; package rocks: touching. -/
import Derived.Test.YtjjkmonfihomnaaConcat
namespace Go.Proofs.Ytjjkmonfihomnaa
open Go.RowKit
attribute [local irreducible] wpQuiet

noncomputable def sharedP (l m : List Pt) : List Pt := cornersP l m ++ cornersP m l ++ crossP l m
theorem shared_cat (l m : List Pt) : catTo [cornersP l m, cornersP m l, crossP l m] 3 = sharedP l m := by simp [catTo, rk, sharedP]
theorem sidesL_len (l : List Pt) : (sidesL l).length = l.length := by simp [sidesL, upto]
theorem crossP_len {l m : List Pt} (hl : l.length ≤ 64) (hm : m.length ≤ 64) : (crossP l m).length ≤ 16384 := by
  have h := crossL_len (sidesL m) (sidesL l)
  rw [sidesL_len, sidesL_len] at h
  have : 4 * m.length * l.length ≤ 256 * 64 := Nat.mul_le_mul (show 4 * m.length ≤ 256 by omega) hl
  unfold crossP
  omega
theorem cornersP_len (l m : List Pt) : (cornersP l m).length ≤ l.length := cornersTo_len l m l.length
/-- three lists in a row's block -/
theorem rocks_three {W : World} {u0 u1 u2 : Value} {l0 l1 l2 : List Pt} (h0 : PtsAt W.heap.size W u0 l0) (h1 : PtsAt W.heap.size W u1 l1) (h2 : PtsAt W.heap.size W u2 l2) :
    RocksAt (W.heap.size + 1) (W.alloc (.cells #[u0, u1, u2] 22)) (.slice (some ⟨W.heap.size, 0, none⟩) 3 3) [l0, l1, l2] := by
  have hB := (Below.refl W.heap.size W).alloc (Nat.le_refl _) (.cells #[u0, u1, u2] 22)
  have hN := Has.new W #[u0, u1, u2] 22
  refine ⟨by simp, _, 0, rfl, .inr ⟨W.heap.size, 0, rfl, by omega, fun j hj => ?_⟩⟩
  match j, hj with
  | 0, _ => exact ⟨u0, hN.cell (i := 0) rfl, (h0.below hB).mono (by omega)⟩
  | 1, _ => exact ⟨u1, hN.cell (i := 1) rfl, (h1.below hB).mono (by omega)⟩
  | 2, _ => exact ⟨u2, hN.cell (i := 2) rfl, (h2.below hB).mono (by omega)⟩

set_option linter.unusedSimpArgs false in
set_option maxRecDepth 4000 in
set_option maxHeartbeats 800000 in
theorem shared_any (vp vq : Value) (l m : List Pt) (w : World) (hp : PtsAt w.heap.size w vp l) (hq : PtsAt w.heap.size w vq m) (hl : goValid l = true) (hm : goValid m = true) :
    Calls Try.prog 104 #[vp, vq] w (PtsQ (sharedP l m) w) := by
  have GL : GoValid l := by simpa [goValid] using hl
  have GM : GoValid m := by simpa [goValid] using hm
  have l64 := GL.2.1
  have m64 := GM.2.1
  have f1 := fun w1 (B : Below w.heap.size w w1) => corners_any vp vq l m w1 ((hp.below B).mono B.size) ((hq.below B).mono B.size) (by omega)
  have f2 := fun w1 (B : Below w.heap.size w w1) => corners_any vq vp m l w1 ((hq.below B).mono B.size) ((hp.below B).mono B.size) (by omega)
  have f3 := fun w1 (B : Below w.heap.size w w1) => crossings_any vp vq l m w1 ((hp.below B).mono B.size) ((hq.below B).mono B.size) hl hm
  have hlen : ∀ j, (rk [cornersP l m, cornersP m l, crossP l m] j).length ≤ 20000 := by
    intro j
    have a1 := cornersP_len l m
    have a2 := cornersP_len m l
    have a3 := crossP_len l64 m64
    match j with
    | 0 => show (cornersP l m).length ≤ _; omega
    | 1 => show (cornersP m l).length ≤ _; omega
    | 2 => show (crossP l m).length ≤ _; omega
    | j + 3 => simp [rk]
  have f4 := fun v w1 (h : RocksAt w1.heap.size w1 v [cornersP l m, cornersP m l, crossP l m]) => concat_any v _ w1 h (by simp) hlen
  have HF := Lib.hid (And.intro f1 (And.intro f2 (And.intro f3 f4)))
  obtain ⟨ap, capp, rfl⟩ := hp.len
  obtain ⟨aq, capq, rfl⟩ := hq.len
  clear GL GM f1 f2 f3 f4 hp hq hlen
  go_enter Try.func104, Try.ntmps104
  go_wp2_with fail
  refine (HF.out.1 _ (Below.refl _ _)).mono ?_
  rintro e w1 ⟨u1, rfl, I1, hb1⟩
  have B1 := Lib.hid hb1
  have J1 := Lib.hid I1
  clear I1 hb1
  obtain ⟨a1, c1, rfl⟩ := J1.out.len
  go_wp2_with fail
  refine (HF.out.2.1 _ B1.out).mono ?_
  rintro e w2 ⟨u2, rfl, I2, hb2⟩
  have B2 := Lib.hid (B1.out.trans (hb2.mono B1.out.size))
  have K1 := Lib.hid ((J1.out.below hb2).mono hb2.size)
  have K2 := Lib.hid I2
  clear I2 hb2
  obtain ⟨a2, c2, rfl⟩ := K2.out.len
  go_wp2_with fail
  refine (HF.out.2.2.1 _ B2.out).mono ?_
  rintro e w3 ⟨u3, rfl, I3, hb3⟩
  have B3 := Lib.hid (B2.out.trans (hb3.mono B2.out.size))
  have L1 := (K1.out.below hb3).mono hb3.size
  have L2 := (K2.out.below hb3).mono hb3.size
  have L3 := I3
  obtain ⟨a3, c3, rfl⟩ := L3.len
  have R := Lib.hid (rocks_three L1 L2 L3)
  have B4 := Lib.hid (B3.out.alloc B3.out.size (.cells #[.slice a1 (cornersP l m).length ((cornersP l m).length + c1), .slice a2 (cornersP m l).length ((cornersP m l).length + c2), .slice a3 (crossP l m).length ((crossP l m).length + c3)] 22))
  clear I3 hb3 L1 L2 L3
  go_wp2_with fail
  refine (HF.out.2.2.2 _ _ (by simpa using R.out)).mono ?_
  rintro e w5 ⟨u5, rfl, I5, hb5⟩
  rw [show ([cornersP l m, cornersP m l, crossP l m] : List (List Pt)).length = 3 from rfl, shared_cat] at I5
  have HI := Lib.hid I5
  have B5 := Lib.hid (B4.out.trans (hb5.mono B4.out.size))
  clear I5 hb5
  go_wp2
  go_ret
  exact ⟨_, rfl, HI.out, B5.out⟩

/-- what Apart returns -/
noncomputable def apartB (l m : List Pt) : Bool := goValid l && goValid m && decide ((sharedP l m).length = 0)
noncomputable def bothE (l m : List Pt) : Int := if (goValid l && goValid m) = true then 0 else 1
set_option linter.unusedSimpArgs false in
set_option maxRecDepth 4000 in
set_option maxHeartbeats 800000 in
theorem apart_any (vp vq : Value) (l m : List Pt) (w : World) (hp : PtsAt w.heap.size w vp l) (hq : PtsAt w.heap.size w vq m) :
    Calls Try.prog 62 #[vp, vq] w fun e w' => e = .returned (.tuple #[.bool (apartB l m), .int .i64 (bothE l m)]) ∧ Below w.heap.size w w' := by
  have f1 := Lib.hid (fun w1 (B : Below w.heap.size w w1) => hullValid_any vp l w1 ((hp.below B).mono B.size))
  have f2 := Lib.hid (fun w1 (B : Below w.heap.size w w1) => hullValid_any vq m w1 ((hq.below B).mono B.size))
  have f3 := Lib.hid (fun w1 (B : Below w.heap.size w w1) => shared_any vp vq l m w1 ((hp.below B).mono B.size) ((hq.below B).mono B.size))
  obtain ⟨ap, capp, rfl⟩ := hp.len
  obtain ⟨aq, capq, rfl⟩ := hq.len
  unfold apartB bothE
  clear hp hq
  cases hl : goValid l
  · rw [hl] at f1
    clear hl
    go_enter Try.func62, Try.ntmps62
    go_wp2_with fail
    refine (f1.out _ (Below.refl _ _)).mono ?_
    rintro e w1 ⟨rfl, hb1⟩
    have B1 := Lib.hid hb1
    clear hb1
    go_wp2
    go_ret2
    exact ⟨rfl, B1.out⟩
  · rw [hl] at f1
    cases hm : goValid m
    · rw [hm] at f2
      clear hl hm
      go_enter Try.func62, Try.ntmps62
      go_wp2_with fail
      refine (f1.out _ (Below.refl _ _)).mono ?_
      rintro e w1 ⟨rfl, hb1⟩
      have B1 := Lib.hid hb1
      clear hb1
      go_wp2_with fail
      refine (f2.out _ B1.out).mono ?_
      rintro e w2 ⟨rfl, hb2⟩
      have B2 := Lib.hid (B1.out.trans (hb2.mono B1.out.size))
      clear hb2
      go_wp2
      go_ret2
      exact ⟨rfl, B2.out⟩
    · rw [hm] at f2
      have HV := Lib.hid (And.intro hl hm)
      clear hl hm
      go_enter Try.func62, Try.ntmps62
      go_wp2_with fail
      refine (f1.out _ (Below.refl _ _)).mono ?_
      rintro e w1 ⟨rfl, hb1⟩
      have B1 := Lib.hid hb1
      clear hb1
      go_wp2_with fail
      refine (f2.out _ B1.out).mono ?_
      rintro e w2 ⟨rfl, hb2⟩
      have B2 := Lib.hid (B1.out.trans (hb2.mono B1.out.size))
      clear hb2
      go_wp2_with fail
      refine (f3.out _ B2.out HV.out.1 HV.out.2).mono ?_
      rintro e w3 ⟨u3, rfl, I3, hb3⟩
      have B3 := Lib.hid (B2.out.trans (hb3.mono B2.out.size))
      obtain ⟨a3, c3, rfl⟩ := I3.len
      clear I3 hb3
      by_cases hd : (sharedP l m).length = 0
      · have hd2 : (((sharedP l m).length : Int) == 0) = true := by rw [beq_iff_eq]; omega
        have HD := Lib.hid (decide_eq_true hd)
        clear hd
        go_wp2
        go_ret2
        have HH := HD.out; exact ⟨by simp_all, B3.out⟩
      · have hd2 : (((sharedP l m).length : Int) == 0) = false := by rw [beq_eq_false_iff_ne]; omega
        have HD := Lib.hid (decide_eq_false hd)
        clear hd
        go_wp2
        go_ret2
        have HH := HD.out; exact ⟨by simp_all, B3.out⟩
/-- two polygons are not apart -/
noncomputable def touchB (l m : List Pt) : Bool := goValid l && goValid m && !decide ((sharedP l m).length = 0)
theorem touching_any (vp : Value) (l : List Pt) (w : World) (hp : PtsAt w.heap.size w vp l) :
    Calls Try.prog 34 #[vp] w fun e w' => e = .returned (.func (.func 61) #[] #[.pointer (some ⟨w.heap.size, 0, none⟩)]) ∧ w.alloc (.cells #[vp] 22) = w' := by
  obtain ⟨ap, capp, rfl⟩ := hp.len
  go_enter Try.func34, Try.ntmps34
  go_wp2
  go_ret
  exact ⟨rfl, rfl⟩
set_option linter.unusedSimpArgs false in
set_option maxRecDepth 4000 in
theorem touching1_any (Bc : Nat) (vp vq : Value) (l m : List Pt) (w : World) (hc : w.cell? ⟨Bc, 0, none⟩ = some vp) (hp : PtsAt w.heap.size w vp l) (hq : PtsAt w.heap.size w vq m) :
    Calls Try.prog 61 #[vq, .pointer (some ⟨Bc, 0, none⟩)] w fun e w' => e = .returned (.bool (touchB l m)) ∧ Below w.heap.size w w' := by
  have f1 := Lib.hid (apart_any vp vq l m w hp hq)
  have hR : touchB l m = (decide (bothE l m = 0) && !apartB l m) := by
    unfold touchB bothE apartB
    cases goValid l <;> cases goValid m <;> simp
  rw [hR]
  obtain ⟨ap, capp, rfl⟩ := hp.len
  obtain ⟨aq, capq, rfl⟩ := hq.len
  have hE : bothE l m = 0 ∨ bothE l m = 1 := by unfold bothE; split <;> simp
  clear hp hq hR
  generalize apartB l m = ab at *
  generalize bothE l m = be at *
  rcases hE with rfl | rfl
  all_goals
    go_enter Try.func61, Try.ntmps61
    go_wp2_with fail
    refine f1.out.mono ?_
    rintro e w1 ⟨rfl, hb1⟩
    go_wp2
    go_ret
    exact ⟨by simp, hb1⟩
end Go.Proofs.Ytjjkmonfihomnaa
