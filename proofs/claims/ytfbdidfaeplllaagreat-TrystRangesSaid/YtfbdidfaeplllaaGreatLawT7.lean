/- No two places of two polygons are farther from each other than their range, and two corners are farther than 1 less. No condition. -/
import Derived.Test.YtfbdidfaeplllaaGreatBin30
import Derived.Test.YtfbdidfaeplllaaGreatBin27
import Derived.Test.YtfbdidfaeplllaaGreatBin26
import Derived.Test.YtfbdidfaeplllaaGreatBin14
namespace Go.Proofs.YtfbdidfaeplllaaGreat.trystRanges
open Go.ChangeShapes Go.WideShapes Go.ChangeAt Go.RowKit
set_option linter.unusedVariables false
theorem own : ownKnob Tryz.prog.godebug = none := by kernel_rfl
theorem laidOut : laidOutB Tryz.prog = true := by kernel_rfl
attribute [local irreducible] wpQuiet

theorem range_small {p q : List Pt} (h : trB p q = true) : rangeV p q ≤ 2000000 := by
  obtain ⟨hp, hq⟩ := trB_iff.1 h
  have P : GoValid p := by simpa [goValid] using hp
  have Q : GoValid q := by simpa [goValid] using hq
  have b := reachK_bd (fun k hk => (P.2.2.1 k hk).1) (fun k hk => (Q.2.2.1 k hk).1) p.length (Nat.le_refl _)
  have hs := rootUp_spec b.1
  unfold rangeV
  rw [if_pos h]
  exact hs.2.2 2000000 (by omega) (by omega)
theorem has_places {p q : List Pt} (h : trB p q = true) {x y : Pt} (hx : hasB p x = true) (hy : hasB q y = true) : dsq x y ≤ rangeV p q * rangeV p q := by
  obtain ⟨hp, hq⟩ := trB_iff.1 h
  have P : GoValid p := by simpa [goValid] using hp
  have Q : GoValid q := by simpa [goValid] using hq
  simp only [hasB, Bool.and_eq_true] at hx hy
  exact range_places h (inH_of_inside P hx.2) (inH_of_inside Q hy.2)
/-- no pair of corners up to here is farther than one less -/
def noneYet (p q : List Pt) (n : Int) (i j : Nat) : Prop := n ≠ 0 ∧ ∀ i' j', j' < q.length → (i' < i ∨ (i' = i ∧ j' < j)) → ¬ ((n - 1) * (n - 1) < dsq (nth p i') (nth q j'))
theorem none_step {p q : List Pt} {n : Int} {i j : Nat} (h : noneYet p q n i j) (h1 : ¬ ((n - 1) * (n - 1) < dsq (nth p i) (nth q j))) : noneYet p q n i (j + 1) :=
  ⟨h.1, fun i' j' hj hb => by
    rcases hb with hb | ⟨rfl, hb⟩
    · exact h.2 i' j' hj (.inl hb)
    · rcases Nat.lt_or_ge j' j with h2 | h2
      · exact h.2 i' j' hj (.inr ⟨rfl, h2⟩)
      · obtain rfl : j' = j := by omega
        exact h1⟩
theorem none_row {p q : List Pt} {n : Int} {i : Nat} (h : noneYet p q n i q.length) : noneYet p q n (i + 1) 0 :=
  ⟨h.1, fun i' j' hj hb => h.2 i' j' hj (by omega)⟩
theorem none_not {p q : List Pt} (h : trB p q = true) (hn : noneYet p q (rangeV p q) p.length 0) : False := by
  rcases (range_spec h).2.2 with e | ⟨i, j, hi, hj, e⟩
  · exact hn.1 e
  · exact hn.2 i j hj (.inl hi) e

set_option linter.unusedSimpArgs false in
set_option linter.unusedVariables false in
set_option maxRecDepth 8000 in
set_option maxHeartbeats 6000000 in
theorem walk (w : World) (vp : Value) (p : List Pt) (vq : Value) (q : List Pt) (x y u v : Int) (hp : PtsAt w.heap.size w vp p) (hq : PtsAt w.heap.size w vq q) :
    Calls Tryz.prog 4 #[vp, vq, .agg #[.int .i64 x, .int .i64 y], .agg #[.int .i64 u, .int .i64 v]] w fun e w' => e = .returned (.bool true) ∧ Below w.heap.size w w' := by
  have f1 := fun w1 h1 h2 => range_any vp vq p q w1 h1 h2
  have fp := fun w1 h => few03_any vp p w1 h
  have fq := fun w1 h => few03_any vq q w1 h
  have fx := fun w1 => rplace_any x y w1
  have fy := fun w1 => rplace_any u v w1
  have h1 := fun w1 h => has_any vp p ⟨x, y⟩ w1 h
  have h2 := fun w1 h => has_any vq q ⟨u, v⟩ w1 h
  have hd := Lib.hid (fun w1 => head38_any w1)
  have PP := Lib.hid hp
  have QQ := Lib.hid hq
  obtain ⟨ap, cp, rfl⟩ := hp.len
  obtain ⟨aq, cq, rfl⟩ := hq.len
  generalize decide (p.length ≤ 80) = b1 at *
  generalize decide (q.length ≤ 80) = b2 at *
  replace fp := Lib.hid fp
  replace fq := Lib.hid fq
  have B0 := Lib.hid (Below.refl w.heap.size w)
  clear hp hq
  cases hok : trB p q
  · have e1 : rangeV p q = 0 := by simp [rangeV, hok]
    have e2 : rangeE p q = 1 := by simp [rangeE, hok]
    rw [e1, e2] at f1
    clear e1 e2 hok
    replace f1 := Lib.hid f1
    replace fx := Lib.hid fx
    replace fy := Lib.hid fy
    replace h1 := Lib.hid h1
    replace h2 := Lib.hid h2
    go_enter Tryz.func4, Tryz.ntmps4
    go_wp2_with fail
    generalize hXX0 : World.alloc (World.alloc w _) _ = X0
    obtain ⟨q0, q1, hA, hzX0⟩ := box2 hXX0
    clear hXX0
    replace PP := Lib.hid ((PP.out.below hA).mono hA.size)
    replace QQ := Lib.hid ((QQ.out.below hA).mono hA.size)
    have XB := Lib.hid q0
    clear q0
    have YB := Lib.hid q1
    clear q1
    have BX0 := Lib.hid (B0.out.trans (hA.mono B0.out.size))
    clear hA
    have x0 := XB.out.cell (i := 0) rfl; have x1 := XB.out.cell (i := 1) rfl
    have y0 := YB.out.cell (i := 0) rfl; have y1 := YB.out.cell (i := 1) rfl
    refine (hd.out _).mono ?_
    rintro e w1 ⟨rfl, b1⟩
    have B1 := Lib.hid (BX0.out.trans (b1.mono BX0.out.size))
    replace PP := Lib.hid ((PP.out.below b1).mono b1.size)
    replace QQ := Lib.hid ((QQ.out.below b1).mono b1.size)
    replace XB := Lib.hid (XB.out.below b1 XB.out.lt)
    replace YB := Lib.hid (YB.out.below b1 YB.out.lt)
    clear b1
    clear x0 x1 y0 y1
    have x0 := XB.out.cell (i := 0) rfl; have x1 := XB.out.cell (i := 1) rfl
    have y0 := YB.out.cell (i := 0) rfl; have y1 := YB.out.cell (i := 1) rfl
    go_wp2_with fail
    refine (fp.out _ PP.out).mono ?_
    rintro e w2 ⟨rfl, b2⟩
    have B2 := Lib.hid (B1.out.trans (b2.mono B1.out.size))
    replace PP := Lib.hid ((PP.out.below b2).mono b2.size)
    replace QQ := Lib.hid ((QQ.out.below b2).mono b2.size)
    replace XB := Lib.hid (XB.out.below b2 XB.out.lt)
    replace YB := Lib.hid (YB.out.below b2 YB.out.lt)
    clear b2
    clear x0 x1 y0 y1
    have x0 := XB.out.cell (i := 0) rfl; have x1 := XB.out.cell (i := 1) rfl
    have y0 := YB.out.cell (i := 0) rfl; have y1 := YB.out.cell (i := 1) rfl
    cases b1
    · go_wp2
      go_ret
      exact ⟨rfl, B2.out⟩
    go_wp2_with fail
    refine (fq.out _ QQ.out).mono ?_
    rintro e w3 ⟨rfl, b3⟩
    have B3 := Lib.hid (B2.out.trans (b3.mono B2.out.size))
    replace PP := Lib.hid ((PP.out.below b3).mono b3.size)
    replace QQ := Lib.hid ((QQ.out.below b3).mono b3.size)
    replace XB := Lib.hid (XB.out.below b3 XB.out.lt)
    replace YB := Lib.hid (YB.out.below b3 YB.out.lt)
    clear b3
    clear x0 x1 y0 y1
    have x0 := XB.out.cell (i := 0) rfl; have x1 := XB.out.cell (i := 1) rfl
    have y0 := YB.out.cell (i := 0) rfl; have y1 := YB.out.cell (i := 1) rfl
    cases b2
    · go_wp2
      go_ret
      exact ⟨rfl, B3.out⟩
    go_wp2_with fail
    refine (fx.out _).mono ?_
    rintro e w4 ⟨rfl, b4⟩
    have B4 := Lib.hid (B3.out.trans (b4.mono B3.out.size))
    replace PP := Lib.hid ((PP.out.below b4).mono b4.size)
    replace QQ := Lib.hid ((QQ.out.below b4).mono b4.size)
    replace XB := Lib.hid (XB.out.below b4 XB.out.lt)
    replace YB := Lib.hid (YB.out.below b4 YB.out.lt)
    clear b4
    clear x0 x1 y0 y1
    have x0 := XB.out.cell (i := 0) rfl; have x1 := XB.out.cell (i := 1) rfl
    have y0 := YB.out.cell (i := 0) rfl; have y1 := YB.out.cell (i := 1) rfl
    cases hpx : placeB x y
    · go_wp2
      go_ret
      exact ⟨rfl, B4.out⟩
    go_wp2_with fail
    refine (fy.out _).mono ?_
    rintro e w5 ⟨rfl, b5⟩
    have B5 := Lib.hid (B4.out.trans (b5.mono B4.out.size))
    replace PP := Lib.hid ((PP.out.below b5).mono b5.size)
    replace QQ := Lib.hid ((QQ.out.below b5).mono b5.size)
    replace XB := Lib.hid (XB.out.below b5 XB.out.lt)
    replace YB := Lib.hid (YB.out.below b5 YB.out.lt)
    clear b5
    clear x0 x1 y0 y1
    have x0 := XB.out.cell (i := 0) rfl; have x1 := XB.out.cell (i := 1) rfl
    have y0 := YB.out.cell (i := 0) rfl; have y1 := YB.out.cell (i := 1) rfl
    cases hpy : placeB u v
    · go_wp2
      go_ret
      exact ⟨rfl, B5.out⟩
    go_wp2_with fail
    refine (f1.out _ PP.out QQ.out).mono ?_
    rintro e w6 ⟨rfl, b6⟩
    have B6 := Lib.hid (B5.out.trans (b6.mono B5.out.size))
    replace PP := Lib.hid ((PP.out.below b6).mono b6.size)
    replace QQ := Lib.hid ((QQ.out.below b6).mono b6.size)
    replace XB := Lib.hid (XB.out.below b6 XB.out.lt)
    replace YB := Lib.hid (YB.out.below b6 YB.out.lt)
    clear b6
    clear x0 x1 y0 y1
    have x0 := XB.out.cell (i := 0) rfl; have x1 := XB.out.cell (i := 1) rfl
    have y0 := YB.out.cell (i := 0) rfl; have y1 := YB.out.cell (i := 1) rfl
    go_wp2
    go_ret
    exact ⟨rfl, B6.out⟩
  have e2 : rangeE p q = 0 := by simp [rangeE, hok]
  rw [e2] at f1
  obtain ⟨hvp, hvq⟩ := trB_iff.1 hok
  have P : GoValid p := by simpa [goValid] using hvp
  have Q : GoValid q := by simpa [goValid] using hvq
  have hs1 := range_small hok
  have hs0 := (range_spec hok).1
  have HSP := Lib.hid (fun i j hi hj => (range_spec hok).2.1 i j hi hj)
  have HNO := Lib.hid (fun hn => none_not hok hn)
  have HHP := Lib.hid (fun hx hy => has_places hok (x := ⟨x, y⟩) (y := ⟨u, v⟩) hx hy)
  have PLP := Lib.hid (fun k hk => (P.2.2.1 k hk).1)
  have PLQ := Lib.hid (fun k hk => (Q.2.2.1 k hk).1)
  have HEX := Lib.hid (fun (h : placeP ⟨x, y⟩ = true) => show hasE p ⟨x, y⟩ = 0 by simp [hasE, hvp, h])
  have HEY := Lib.hid (fun (h : placeP ⟨u, v⟩ = true) => show hasE q ⟨u, v⟩ = 0 by simp [hasE, hvq, h])
  generalize hn : rangeV p q = n at *
  have HN := Lib.hid hn
  have sn := sq_bd (a := n) (m := 2000000) (by omega) hs1
  have sn1 := sq_bd (a := n - 1) (m := 2000000) (by omega) (by omega)
  have z1 : IntKind.i64.wrap (n * n) = n * n := IntWalk.i64_in _ (by omega)
  obtain ⟨n1, hn1⟩ : ∃ t, t = n - 1 := ⟨_, rfl⟩
  have z2 : IntKind.i64.wrap (n - 1) = n1 := by rw [hn1]; exact IntWalk.i64_in _ (by omega)
  rw [← hn1] at sn1
  have z3 : IntKind.i64.wrap (n1 * n1) = n1 * n1 := IntWalk.i64_in _ (by omega)
  have HN1 := Lib.hid hn1
  have l1 : p.length ≤ 64 := P.2.1
  have l2 : q.length ≤ 64 := Q.2.1
  have hnp : ¬ p = [] := by intro h; have := P.1; rw [h] at this; simp at this
  have hnq : ¬ q = [] := by intro h; have := Q.1; rw [h] at this; simp at this
  obtain ⟨bp, op, rfl, hbp, hcp⟩ : ∃ b o, ap = some ⟨b, o, none⟩ ∧ b < w.heap.size ∧ ∀ j, j < p.length → w.cell? ⟨b, o + j * 2, none⟩ = some (.int .i64 (nth p j).x) ∧ w.cell? ⟨b, o + j * 2 + 1, none⟩ = some (.int .i64 (nth p j).y) := by
    obtain ⟨-, a, c, e, hc⟩ := PP.out
    simp only [Value.slice.injEq, true_and, Nat.add_left_cancel_iff] at e
    obtain ⟨rfl, rfl⟩ := e
    exact hc.resolve_left hnp
  obtain ⟨bq, oq, rfl, hbq, hcq⟩ : ∃ b o, aq = some ⟨b, o, none⟩ ∧ b < w.heap.size ∧ ∀ j, j < q.length → w.cell? ⟨b, o + j * 2, none⟩ = some (.int .i64 (nth q j).x) ∧ w.cell? ⟨b, o + j * 2 + 1, none⟩ = some (.int .i64 (nth q j).y) := by
    obtain ⟨-, a, c, e, hc⟩ := QQ.out
    simp only [Value.slice.injEq, true_and, Nat.add_left_cancel_iff] at e
    obtain ⟨rfl, rfl⟩ := e
    exact hc.resolve_left hnq
  have KP := Lib.hid (And.intro hbp hcp)
  have KQ := Lib.hid (And.intro hbq hcq)
  have FS := Lib.hid (fun i j w1 (hi : i < p.length) (hj : j < q.length) => rsquare_any (nth p i) (nth q j) w1 (PLP.out i hi) (PLQ.out j hj))
  clear P Q hvp hvq e2 hok hn hn1 sn sn1 hs1 hs0 hcp hcq hbp hbq hnp hnq
  replace f1 := Lib.hid f1
  replace fx := Lib.hid fx
  replace fy := Lib.hid fy
  replace h1 := Lib.hid h1
  replace h2 := Lib.hid h2
  go_enter Tryz.func4, Tryz.ntmps4
  go_wp2_with fail
  generalize hXX0 : World.alloc (World.alloc w _) _ = X0
  obtain ⟨q0, q1, hA, hzX0⟩ := box2 hXX0
  clear hXX0
  replace PP := Lib.hid ((PP.out.below hA).mono hA.size)
  replace QQ := Lib.hid ((QQ.out.below hA).mono hA.size)
  have XB := Lib.hid q0
  clear q0
  have YB := Lib.hid q1
  clear q1
  have BX0 := Lib.hid (B0.out.trans (hA.mono B0.out.size))
  clear hA
  have x0 := XB.out.cell (i := 0) rfl; have x1 := XB.out.cell (i := 1) rfl
  have y0 := YB.out.cell (i := 0) rfl; have y1 := YB.out.cell (i := 1) rfl
  refine (hd.out _).mono ?_
  rintro e w1 ⟨rfl, b1⟩
  have B1 := Lib.hid (BX0.out.trans (b1.mono BX0.out.size))
  replace PP := Lib.hid ((PP.out.below b1).mono b1.size)
  replace QQ := Lib.hid ((QQ.out.below b1).mono b1.size)
  replace XB := Lib.hid (XB.out.below b1 XB.out.lt)
  replace YB := Lib.hid (YB.out.below b1 YB.out.lt)
  clear b1
  clear x0 x1 y0 y1
  have x0 := XB.out.cell (i := 0) rfl; have x1 := XB.out.cell (i := 1) rfl
  have y0 := YB.out.cell (i := 0) rfl; have y1 := YB.out.cell (i := 1) rfl
  go_wp2_with fail
  refine (fp.out _ PP.out).mono ?_
  rintro e w2 ⟨rfl, b2⟩
  have B2 := Lib.hid (B1.out.trans (b2.mono B1.out.size))
  replace PP := Lib.hid ((PP.out.below b2).mono b2.size)
  replace QQ := Lib.hid ((QQ.out.below b2).mono b2.size)
  replace XB := Lib.hid (XB.out.below b2 XB.out.lt)
  replace YB := Lib.hid (YB.out.below b2 YB.out.lt)
  clear b2
  clear x0 x1 y0 y1
  have x0 := XB.out.cell (i := 0) rfl; have x1 := XB.out.cell (i := 1) rfl
  have y0 := YB.out.cell (i := 0) rfl; have y1 := YB.out.cell (i := 1) rfl
  cases b1
  · go_wp2
    go_ret
    exact ⟨rfl, B2.out⟩
  go_wp2_with fail
  refine (fq.out _ QQ.out).mono ?_
  rintro e w3 ⟨rfl, b3⟩
  have B3 := Lib.hid (B2.out.trans (b3.mono B2.out.size))
  replace PP := Lib.hid ((PP.out.below b3).mono b3.size)
  replace QQ := Lib.hid ((QQ.out.below b3).mono b3.size)
  replace XB := Lib.hid (XB.out.below b3 XB.out.lt)
  replace YB := Lib.hid (YB.out.below b3 YB.out.lt)
  clear b3
  clear x0 x1 y0 y1
  have x0 := XB.out.cell (i := 0) rfl; have x1 := XB.out.cell (i := 1) rfl
  have y0 := YB.out.cell (i := 0) rfl; have y1 := YB.out.cell (i := 1) rfl
  cases b2
  · go_wp2
    go_ret
    exact ⟨rfl, B3.out⟩
  go_wp2_with fail
  refine (fx.out _).mono ?_
  rintro e w4 ⟨rfl, b4⟩
  have B4 := Lib.hid (B3.out.trans (b4.mono B3.out.size))
  replace PP := Lib.hid ((PP.out.below b4).mono b4.size)
  replace QQ := Lib.hid ((QQ.out.below b4).mono b4.size)
  replace XB := Lib.hid (XB.out.below b4 XB.out.lt)
  replace YB := Lib.hid (YB.out.below b4 YB.out.lt)
  clear b4
  clear x0 x1 y0 y1
  have x0 := XB.out.cell (i := 0) rfl; have x1 := XB.out.cell (i := 1) rfl
  have y0 := YB.out.cell (i := 0) rfl; have y1 := YB.out.cell (i := 1) rfl
  cases hpx : placeB x y
  · go_wp2
    go_ret
    exact ⟨rfl, B4.out⟩
  go_wp2_with fail
  refine (fy.out _).mono ?_
  rintro e w5 ⟨rfl, b5⟩
  have B5 := Lib.hid (B4.out.trans (b5.mono B4.out.size))
  replace PP := Lib.hid ((PP.out.below b5).mono b5.size)
  replace QQ := Lib.hid ((QQ.out.below b5).mono b5.size)
  replace XB := Lib.hid (XB.out.below b5 XB.out.lt)
  replace YB := Lib.hid (YB.out.below b5 YB.out.lt)
  clear b5
  clear x0 x1 y0 y1
  have x0 := XB.out.cell (i := 0) rfl; have x1 := XB.out.cell (i := 1) rfl
  have y0 := YB.out.cell (i := 0) rfl; have y1 := YB.out.cell (i := 1) rfl
  cases hpy : placeB u v
  · go_wp2
    go_ret
    exact ⟨rfl, B5.out⟩
  go_wp2_with fail
  refine (f1.out _ PP.out QQ.out).mono ?_
  rintro e w6 ⟨rfl, b6⟩
  have B6 := Lib.hid (B5.out.trans (b6.mono B5.out.size))
  replace PP := Lib.hid ((PP.out.below b6).mono b6.size)
  replace QQ := Lib.hid ((QQ.out.below b6).mono b6.size)
  replace XB := Lib.hid (XB.out.below b6 XB.out.lt)
  replace YB := Lib.hid (YB.out.below b6 YB.out.lt)
  clear b6
  clear x0 x1 y0 y1
  have x0 := XB.out.cell (i := 0) rfl; have x1 := XB.out.cell (i := 1) rfl
  have y0 := YB.out.cell (i := 0) rfl; have y1 := YB.out.cell (i := 1) rfl
  have hpx' : placeP ⟨x, y⟩ = true := hpx
  have hpy' : placeP ⟨u, v⟩ = true := hpy
  have ex := HEX.out hpx'
  have ey := HEY.out hpy'
  replace h1 := Lib.hid (fun w1 h => ex ▸ h1.out w1 h)
  replace h2 := Lib.hid (fun w1 h => ey ▸ h2.out w1 h)
  have FXY := Lib.hid (fun w1 => rsquare_any ⟨x, y⟩ ⟨u, v⟩ w1 hpx' hpy')
  generalize hasB p ⟨x, y⟩ = o1 at *
  generalize hasB q ⟨u, v⟩ = o2 at *
  generalize dsq ⟨x, y⟩ ⟨u, v⟩ = dxy at *
  clear hpx hpy hpx' hpy' ex ey HEX HEY
  go_wp2_with fail
  refine (h1.out _ PP.out).mono ?_
  rintro e w7 ⟨rfl, b7⟩
  have B7 := Lib.hid (B6.out.trans (b7.mono B6.out.size))
  replace PP := Lib.hid ((PP.out.below b7).mono b7.size)
  replace QQ := Lib.hid ((QQ.out.below b7).mono b7.size)
  replace XB := Lib.hid (XB.out.below b7 XB.out.lt)
  replace YB := Lib.hid (YB.out.below b7 YB.out.lt)
  clear b7
  clear x0 x1 y0 y1
  have x0 := XB.out.cell (i := 0) rfl; have x1 := XB.out.cell (i := 1) rfl
  have y0 := YB.out.cell (i := 0) rfl; have y1 := YB.out.cell (i := 1) rfl
  go_wp2_with fail
  refine (h2.out _ QQ.out).mono ?_
  rintro e w8 ⟨rfl, b8⟩
  have B8 := Lib.hid (B7.out.trans (b8.mono B7.out.size))
  replace PP := Lib.hid ((PP.out.below b8).mono b8.size)
  replace QQ := Lib.hid ((QQ.out.below b8).mono b8.size)
  replace XB := Lib.hid (XB.out.below b8 XB.out.lt)
  replace YB := Lib.hid (YB.out.below b8 YB.out.lt)
  clear b8
  clear x0 x1 y0 y1
  have x0 := XB.out.cell (i := 0) rfl; have x1 := XB.out.cell (i := 1) rfl
  have y0 := YB.out.cell (i := 0) rfl; have y1 := YB.out.cell (i := 1) rfl
  clear x0 x1 y0 y1
  obtain ⟨br0, hbr0⟩ : ∃ b, b = (n == 0) := ⟨_, rfl⟩
  have hbz : (n == 0) = br0 := hbr0.symm
  have HB0 := Lib.hid hbr0
  clear hbr0
  go_wp2
  go_loopw [9, 16, 75] (fun vu vr vi wr => ∃ k : Nat, ∃ b : Bool, k ≤ p.length ∧ vu = .bool true ∧ vr = .bool b ∧ vi = .int .i64 (k : Int) ∧ (b = false → noneYet p q n k 0) ∧ Below w8.heap.size w8 wr) (fun _ _ vi _ => p.length - (intOf vi).toNat)
  case atStart => exact ⟨0, br0, by omega, rfl, rfl, rfl, fun h => ⟨by have := HB0.out; rw [h] at this; simpa using this.symm, fun i j _ h => by omega⟩, Below.refl _ _⟩
  case round =>
    obtain ⟨k, bk, hk, rfl, rfl, rfl, hno, hB⟩ := hrel
    clear hbz
    by_cases hlt : k < p.length
    · have dk : decide ((k : Int) < (p.length : Int)) = true := by rw [decide_eq_true_eq]; omega
      have HB := Lib.hid hB
      have HNK := Lib.hid hno
      obtain ⟨wq, hwq⟩ : ∃ x, x = wr := ⟨_, rfl⟩
      subst hwq
      clear hB hno
      go_wp2
      go_loopw [9, 16, 80] (fun vu vr vi wr => ∃ j : Nat, ∃ b : Bool, j ≤ q.length ∧ vu = .bool true ∧ vr = .bool b ∧ vi = .int .i64 (j : Int) ∧ (b = false → noneYet p q n k j) ∧ Below w8.heap.size w8 wr) (fun _ _ vi _ => q.length - (intOf vi).toNat)
      case atStart => exact ⟨0, bk, by omega, rfl, rfl, rfl, HNK.out, HB.out⟩
      case round =>
        obtain ⟨j, bj, hj, rfl, rfl, rfl, hno, hB⟩ := hrel
        have hzB := hB.size
        by_cases hlj : j < q.length
        · have dj : decide ((j : Int) < (q.length : Int)) = true := by rw [decide_eq_true_eq]; omega
          have hBw := B8.out.trans (hB.mono B8.out.size)
          have p0 := Low.fact ((hBw.cell (p := ⟨bp, op + k * 2, none⟩) KP.out.1).trans (KP.out.2 k hlt).1)
          have p1 := Low.fact ((hBw.cell (p := ⟨bp, op + k * 2 + 1, none⟩) KP.out.1).trans (KP.out.2 k hlt).2)
          have p2 := Low.fact ((hBw.cell (p := ⟨bq, oq + j * 2, none⟩) KQ.out.1).trans (KQ.out.2 j hlj).1)
          have p3 := Low.fact ((hBw.cell (p := ⟨bq, oq + j * 2 + 1, none⟩) KQ.out.1).trans (KQ.out.2 j hlj).2)
          have fs := fun w1 => FS.out k j w1 hlt hlj
          have hle := HSP.out k j hlt hlj
          have HST := Lib.hid (fun h h1 => none_step (p := p) (q := q) (n := n) (i := k) (j := j) h h1)
          have kl : (k : Int) < p.length := by omega
          have k0 : (0 : Int) ≤ k := by omega
          have jl : (j : Int) < q.length := by omega
          have j0 : (0 : Int) ≤ j := by omega
          have HNK := Lib.hid hno
          have HB := Lib.hid hB
          clear hno hB hBw
          generalize dsq (nth p k) (nth q j) = dd at *
          generalize (nth p k).x = ax at *
          generalize (nth p k).y = ay at *
          generalize (nth q j).x = bx at *
          generalize (nth q j).y = by' at *
          have dle : decide (dd ≤ n * n) = true := by rw [decide_eq_true_eq]; exact hle
          replace fs := Lib.hid fs
          clear hle
          go_wp2
          (refine wp_region_low (by kernel_rfl) (by kernel_rfl) ?_; (iterate 10 (apply quiet_want; (case hw => rfl); (case hval => (intro w1 hw1; have hcx := Low.cells hw1; simp only [Oper.quietAt]; go_simp; first | done | (first | (go_at_call 17; exact Low.calls hw1 (fs.out _))) | rfl | exact ⟨rfl, rfl⟩)); simp only [Act.put, List.setIfInBounds_toArray, List.set_cons_zero, List.set_cons_succ])); refine wpQuiet_nil ?_; intro w2 hw2)
          have BZ := Lib.hid (HB.out.trans (hw2.out.mono hzB))
          clear hw2 p0 p1 p2 p3
          cases bj
          · have hno := HNK.out rfl
            have HNO2 := Lib.hid hno
            cases dd2 : decide (dd > n1 * n1)
            · have h3 : ¬ ((n - 1) * (n - 1) < dd) := by rw [← HN1.out]; simpa using dd2
              have HS := Lib.hid (HST.out hno (Int.not_lt.1 h3))
              clear hno h3
              go_wp2
              go_roundw
              case rel => exact ⟨j + 1, false, by omega, rfl, rfl, by go_num, fun _ => HS.out, BZ.out⟩
              case measure => simp [intOf]; omega
            · clear hno
              go_wp2
              go_roundw
              case rel => exact ⟨j + 1, true, by omega, rfl, rfl, by go_num, fun h => by simp at h, BZ.out⟩
              case measure => simp [intOf]; omega
          · go_wp2
            go_roundw
            case rel => exact ⟨j + 1, true, by omega, rfl, rfl, by go_num, fun h => by simp at h, BZ.out⟩
            case measure => simp [intOf]; omega
        · obtain rfl : j = q.length := by omega
          have dj : decide ((q.length : Int) < (q.length : Int)) = false := by simp
          have HB := Lib.hid hB
          have HNK := Lib.hid hno
          clear hB hno
          go_wp2
          go_roundw
          case rel => exact ⟨k + 1, bj, by omega, rfl, rfl, by go_num, fun h => none_row (HNK.out h), HB.out⟩
          case measure => simp [intOf]; omega
    · obtain rfl : k = p.length := by omega
      have dk : decide ((p.length : Int) < (p.length : Int)) = false := by simp
      have hbt : bk = true := by
        cases bk
        · exact (HNO.out (hno rfl)).elim
        · rfl
      subst hbt
      have BZ := Lib.hid (B8.out.trans (hB.mono B8.out.size))
      have x0 := (XB.out.below hB XB.out.lt).cell (i := 0) rfl
      have x1 := (XB.out.below hB XB.out.lt).cell (i := 1) rfl
      have y0 := (YB.out.below hB YB.out.lt).cell (i := 0) rfl
      have y1 := (YB.out.below hB YB.out.lt).cell (i := 1) rfl
      clear hB hno
      cases o1
      · go_wp2
        go_ret
        exact ⟨rfl, BZ.out⟩
      cases o2
      · go_wp2
        go_ret
        exact ⟨rfl, BZ.out⟩
      have dxy' : decide (dxy ≤ n * n) = true := by rw [decide_eq_true_eq]; exact HHP.out rfl rfl
      go_wp2_with fail
      refine (FXY.out _).mono ?_
      rintro e w9 ⟨rfl, b9⟩
      have BY := Lib.hid (BZ.out.trans (b9.mono BZ.out.size))
      clear b9
      go_wp2
      go_ret
      exact ⟨rfl, BY.out⟩


set_option maxRecDepth 100000 in
theorem lifted (os : Os) (started : os.Started) (H : Type) (enc : TypeId × Value → H) :
    ReturnsInHanded {} Tryz.checked os 4 .any (Rows.trystRangesSpec.pre6 enc Tryz.prog Tryz.f4 Rows.trystRangesRow.domain false) (Rows.trystRangesSpec.post enc Tryz.prog Tryz.f4 false true false false) := by
  refine returnsInHanded_of_change_sized (C := Tryz.checked) own started (by kernel_rfl) Tryz.func4
    (ChangeSpec.witness6 (enc := enc) (C := Tryz.checked) false ⟨#[], #[.slice none 0 0, .slice none 0 0, .agg #[.int .i64 0, .int .i64 0], .agg #[.int .i64 0, .int .i64 0]], []⟩ 8 (by kernel_rfl) (by kernel_rfl) (by kernel_rfl) (by kernel_rfl)) ?_
  intro W base args ds gs before hval0 hW hcnd hsz0 _
  have hval : ∀ (j : Nat) t v, Tryz.f4.params[j]? = some t → args[j]? = some v → Value.okWide Tryz.prog W .any base t v := hval0
  have hW' := hW
  obtain ⟨p, q, hA0, hV, rfl, hfz, hnd⟩ := hW
  have hA : DataW.TrodAll enc Tryz.prog W 0 (fun _ => true) true Tryz.f4.params.toList args.toList ds p := hA0
  have hsz : (DataW.weightsEach Tryz.prog (Tryz.f4.params.toList ++ Rows.trystRangesSpec.plain.varTypes Tryz.prog) (ds ++ gs)).all (· ≤ reachBytes) = true := hsz0
  rw [Tryz.params4] at hA hval hsz
  obtain ⟨v0, vs0, d0, ds0, p0, q0, hargs, rfl, rfl, h0, r0⟩ := trodAll_cons hA
  obtain ⟨v1, vs1, d1, ds1, p1, q1, rfl, rfl, rfl, h1, r1⟩ := trodAll_cons r0
  obtain ⟨v2, vs2, d2, ds2, p2, q2, rfl, rfl, rfl, h2, r2⟩ := trodAll_cons r1
  obtain ⟨v3, vs3, d3, ds3, p3, q3, rfl, rfl, rfl, h3, r3⟩ := trodAll_cons r2
  obtain ⟨rfl, rfl, rfl⟩ := trodAll_nil r3
  obtain rfl : args = #[v0, v1, v2, v3] := by cases args; simp_all
  obtain ⟨rfl, rfl⟩ := trodVars_none hV
  have k0 := h0
  have lt0 : ∀ x ∈ p0, x.block < W.heap.size := by obtain ⟨m, hm⟩ := k0; exact DataW.trod_lt m _ _ _ hm
  have z0 : ∀ n ∈ d0.weights Tryz.prog 23, n ≤ reachBytes := fun n hn => by have := List.all_eq_true.1 hsz n (DataW.weights_mem_each (j := 0) (t := 23) (d := d0) rfl rfl n hn); simpa using this
  obtain ⟨a0, w0⟩ := open_pts_arg (hval 0 23 v0 rfl rfl) h0 z0
  have k1 := h1
  have lt1 : ∀ x ∈ p1, x.block < W.heap.size := by obtain ⟨m, hm⟩ := k1; exact DataW.trod_lt m _ _ _ hm
  have z1 : ∀ n ∈ d1.weights Tryz.prog 23, n ≤ reachBytes := fun n hn => by have := List.all_eq_true.1 hsz n (DataW.weights_mem_each (j := 1) (t := 23) (d := d1) rfl rfl n hn); simpa using this
  obtain ⟨a1, w1⟩ := open_pts_arg (hval 1 23 v1 rfl rfl) h1 z1
  have k2 := h2
  have lt2 : ∀ x ∈ p2, x.block < W.heap.size := by obtain ⟨m, hm⟩ := k2; exact DataW.trod_lt m _ _ _ hm
  obtain ⟨a2, b2, rfl⟩ := open_point (hval 2 31 v2 rfl rfl) h2
  have k3 := h3
  have lt3 : ∀ x ∈ p3, x.block < W.heap.size := by obtain ⟨m, hm⟩ := k3; exact DataW.trod_lt m _ _ _ hm
  obtain ⟨a3, b3, rfl⟩ := open_point (hval 3 31 v3 rfl rfl) h3
  clear hA0 hval0
  refine (walk W v0 a0 v1 a1 a2 b2 a3 b3 w0 w1).mono fun e W' ⟨he, bel⟩ => ?_
  subst he
  exact ⟨_, rfl, _, _, _, [], _, [], hW', trodAll_mk1 (shut_bool Tryz.underlying4 _), (trodAll_cons_mk (Below.trod laidOut (by kernel_rfl) (of_decide_eq_true (by kernel_rfl)) k0 bel lt0) (trodAll_cons_mk (Below.trod laidOut (by kernel_rfl) (of_decide_eq_true (by kernel_rfl)) k1 bel lt1) (trodAll_cons_mk (Below.trod laidOut (by kernel_rfl) (of_decide_eq_true (by kernel_rfl)) k2 bel lt2) (trodAll_cons_mk (Below.trod laidOut (by kernel_rfl) (of_decide_eq_true (by kernel_rfl)) k3 bel lt3) trodAll_mk0)))), rfl, bel.frame _, fun h => by cases h⟩

theorem over : Rows.trystRangesRow.holds Tryz.pinned (OpenSpec.ofChange Rows.trystRangesSpec) :=
  OpenClaim.holds_of_wide 4 Tryz.f4 rfl rfl rfl rfl rfl rfl rfl ⟨rfl, rfl, rfl, rfl, rfl⟩ rfl rfl rfl rfl rfl (by kernel_rfl) Tryz.func4 (by kernel_rfl)
    (of_decide_eq_true (by kernel_rfl)) (by unfold Func.isWrapper; first | (rw [if_pos (by decide +kernel)]; kernel_rfl) | (rw [if_neg (by decide +kernel)]; exact ⟨rfl, rfl⟩))
    (fun os started H enc _ => lifted os started H enc)

/-- the statement -/
theorem proved : Rows.TrystRangesSaid := over
#print axioms proved
end Go.Proofs.YtfbdidfaeplllaaGreat.trystRanges
