/- The corridor the other way round is the same; with greater radii it has each corner of this one. No condition. -/
import Derived.Test.YtoekcefhphcjjaaBin33
import Derived.Test.YtoekcefhphcjjaaBin34
import Derived.Test.YtoekcefhphcjjaaBin12
namespace Go.Proofs.Ytoekcefhphcjjaa.spreadWider
open Go.ChangeShapes Go.WideShapes Go.ChangeAt Go.RowKit
set_option linter.unusedVariables false
theorem own : ownKnob Try.prog.godebug = none := by kernel_rfl
theorem laidOut : laidOutB Try.prog = true := by kernel_rfl
attribute [local irreducible] wpQuiet

theorem pts_cells {n0 : Nat} {W : World} {v : Value} {l : List Pt} (h : PtsAt n0 W v l) (h0 : 0 < l.length) : ∃ b o cap, v = .slice (some ⟨b, o, none⟩) l.length (l.length + cap) ∧ b < n0 ∧ ∀ j, j < l.length → W.cell? ⟨b, o + j * 2, none⟩ = some (.int .i64 (nth l j).x) ∧ W.cell? ⟨b, o + j * 2 + 1, none⟩ = some (.int .i64 (nth l j).y) := by
  obtain ⟨_, a, cap, e, hc⟩ := h
  rcases hc with rfl | ⟨b, o, rfl, hb, hc⟩
  · simp at h0
  · exact ⟨b, o, cap, e, hb, hc⟩
theorem cor_err {a b : Pt} {u v : Int} (ha : placeP a = true) (hb : placeP b = true) (hu : 0 ≤ u ∧ u ≤ 100000) (hv : 0 ≤ v ∧ v ≤ 100000) (h : corE a u b v ≠ 0) : corE a u b v = 3 := by
  have e : corE a u b v = if allPl (mvL a (diskP u.toNat)) = true ∧ allPl (mvL b (diskP v.toNat)) = true then 0 else 3 := if_pos ⟨ha, hb, by simp [radOk, hu.1, hu.2], by simp [radOk, hv.1, hv.2]⟩
  rw [e] at h ⊢
  split at h
  · exact absurd rfl h
  · rename_i h2
    rw [if_neg h2]
theorem wider_has {a b : Pt} {u u' v v' : Int} (h : corE a u b v = 0) (h' : corE a u' b v' = 0) (hu : u ≤ u') (hv : v ≤ v') {x : Pt} (hx : x ∈ corL a u b v) : hasB (corL a u' b v') x = true ∧ hasE (corL a u' b v') x = 0 := by
  have e1 : corL a u b v = corH a u.toNat b v.toNat := if_pos h
  have e2 : corL a u' b v' = corH a u'.toNat b v'.toNat := if_pos h'
  rw [e1] at hx
  rw [e2]
  have V := cor_valid h'
  have g := goValid_of V
  have px : placeP x = true := by
    obtain ⟨k, hk, rfl⟩ := mem_nth' hx
    exact ((cor_valid h).2.2.1 k hk).1
  have i := inside_of_inH V.1 (cor_wider h h' hu hv hx)
  exact ⟨by simp [hasB, g, px, i], by simp [hasE, g, px]⟩
set_option linter.unusedSimpArgs false in
set_option linter.unusedVariables false in
set_option maxRecDepth 8000 in
set_option maxHeartbeats 4000000 in
theorem walk (w : World) (ax ay bx by' u v mo fa : Int) (_ : (Lit.int .i64 u).wf = true) (_ : (Lit.int .i64 v).wf = true) (hmo : (Lit.int .u16 mo).wf = true) (hfa : (Lit.int .u16 fa).wf = true) :
    Calls Try.prog 5 #[.agg #[.int .i64 ax, .int .i64 ay], .agg #[.int .i64 bx, .int .i64 by'], .int .i64 u, .int .i64 v, .int .u16 mo, .int .u16 fa] w fun e w' => e = .returned (.bool true) ∧ Below w.heap.size w w' := by
  obtain ⟨jm, rfl, hjm⟩ := u16_bd hmo
  obtain ⟨jf, rfl, hjf⟩ := u16_bd hfa
  have f1 := fun w1 => corridor_any ⟨ax, ay⟩ ⟨bx, by'⟩ u v w1
  have f2 := fun w1 => corridor_any ⟨bx, by'⟩ ⟨ax, ay⟩ v u w1
  rw [corE_swap ⟨ax, ay⟩ u ⟨bx, by'⟩ v, corL_swap ⟨ax, ay⟩ u ⟨bx, by'⟩ v] at f2
  have hd := Lib.hid (fun w1 => head32_any w1)
  have z0 : IntKind.i64.wrap (jm : Int) = jm := IntWalk.i64_in _ (by omega)
  have z1 : IntKind.i64.wrap (jf : Int) = jf := IntWalk.i64_in _ (by omega)
  have B0 := Lib.hid (Below.refl w.heap.size w)
  clear hmo hfa
  by_cases he : corE ⟨ax, ay⟩ u ⟨bx, by'⟩ v = 0
  case neg =>
    generalize corE ⟨ax, ay⟩ u ⟨bx, by'⟩ v = ce at *
    generalize corL ⟨ax, ay⟩ u ⟨bx, by'⟩ v = cl at *
    replace f1 := Lib.hid f1
    replace f2 := Lib.hid f2
    have dne : (ce != ce) = false := by simp
    have de : (ce != 0) = true := by simpa using he
    clear he
    go_enter Try.func5, Try.ntmps5
    have q0 := Has.new w #[.int .i64 ax, .int .i64 ay] 38
    have q0 := q0.below ((Below.refl (w.heap.size + 1) _).alloc (by simp) (.cells #[.int .i64 bx, .int .i64 by'] 38)) (by omega)
    have q1 := Has.new (w.alloc (.cells #[.int .i64 ax, .int .i64 ay] 38)) #[.int .i64 bx, .int .i64 by'] 38
    rw [World.size_alloc] at q1
    go_wp2_with fail
    have PA := Lib.hid (show Has ((w.alloc (.cells #[.int .i64 ax, .int .i64 ay] 38)).alloc (.cells #[.int .i64 bx, .int .i64 by'] 38)) (w.heap.size) #[.int .i64 ax, .int .i64 ay] 38 from q0)
    have PB := Lib.hid (show Has ((w.alloc (.cells #[.int .i64 ax, .int .i64 ay] 38)).alloc (.cells #[.int .i64 bx, .int .i64 by'] 38)) (w.heap.size + 1) #[.int .i64 bx, .int .i64 by'] 38 from q1)
    have BX0 := Lib.hid (B0.out.trans (((((Below.refl w.heap.size w).alloc (Nat.le_refl _) (.cells #[.int .i64 ax, .int .i64 ay] 38)).alloc (by simp) (.cells #[.int .i64 bx, .int .i64 by'] 38))).mono B0.out.size))
    generalize hXX0 : ((w.alloc (.cells #[.int .i64 ax, .int .i64 ay] 38)).alloc (.cells #[.int .i64 bx, .int .i64 by'] 38)) = X0 at *
    clear hXX0
    have x0 := PA.out.cell (i := 0) rfl; have x1 := PA.out.cell (i := 1) rfl
    have y0 := PB.out.cell (i := 0) rfl; have y1 := PB.out.cell (i := 1) rfl
    clear q0 q1
    have hz0 := BX0.out.size
    refine (hd.out _).mono ?_
    rintro e w1 ⟨rfl, b1⟩
    have B1 := Lib.hid (BX0.out.trans (b1.mono BX0.out.size))
    replace PA := Lib.hid (PA.out.below b1 PA.out.lt)
    replace PB := Lib.hid (PB.out.below b1 PB.out.lt)
    clear b1
    clear x0 x1 y0 y1
    have x0 := PA.out.cell (i := 0) rfl; have x1 := PA.out.cell (i := 1) rfl
    have y0 := PB.out.cell (i := 0) rfl; have y1 := PB.out.cell (i := 1) rfl
    go_wp2_with fail
    refine (f1.out _).mono ?_
    rintro e w2 ⟨v2, rfl, p2, b2⟩
    have B2 := Lib.hid (B1.out.trans (b2.mono B1.out.size))
    replace PA := Lib.hid (PA.out.below b2 PA.out.lt)
    replace PB := Lib.hid (PB.out.below b2 PB.out.lt)
    obtain ⟨ga2, gc2, hv2⟩ := p2.len
    subst hv2
    have P1 := Lib.hid p2
    clear p2
    clear b2
    clear x0 x1 y0 y1
    have x0 := PA.out.cell (i := 0) rfl; have x1 := PA.out.cell (i := 1) rfl
    have y0 := PB.out.cell (i := 0) rfl; have y1 := PB.out.cell (i := 1) rfl
    go_wp2_with fail
    refine (f2.out _).mono ?_
    rintro e w3 ⟨v3, rfl, p3, b3⟩
    have B3 := Lib.hid (B2.out.trans (b3.mono B2.out.size))
    replace PA := Lib.hid (PA.out.below b3 PA.out.lt)
    replace PB := Lib.hid (PB.out.below b3 PB.out.lt)
    replace P1 := Lib.hid ((P1.out.below b3).mono b3.size)
    obtain ⟨ga3, gc3, hv3⟩ := p3.len
    subst hv3
    have P2 := Lib.hid p3
    clear p3
    clear b3
    clear x0 x1 y0 y1
    have x0 := PA.out.cell (i := 0) rfl; have x1 := PA.out.cell (i := 1) rfl
    have y0 := PB.out.cell (i := 0) rfl; have y1 := PB.out.cell (i := 1) rfl
    go_wp2_with fail
    have dc : decide (cl = cl) = true := by simp
    refine (samepts_any _ _ cl cl _ P1.out P2.out).mono ?_
    rintro e w4 ⟨rfl, b4⟩
    have B4 := Lib.hid (B3.out.trans (b4.mono B3.out.size))
    clear P2
    replace PA := Lib.hid (PA.out.below b4 PA.out.lt)
    replace PB := Lib.hid (PB.out.below b4 PB.out.lt)
    replace P1 := Lib.hid ((P1.out.below b4).mono b4.size)
    clear b4
    clear x0 x1 y0 y1
    have x0 := PA.out.cell (i := 0) rfl; have x1 := PA.out.cell (i := 1) rfl
    have y0 := PB.out.cell (i := 0) rfl; have y1 := PB.out.cell (i := 1) rfl
    clear x0 x1 y0 y1
    go_wp2
    go_ret
    exact ⟨rfl, B4.out⟩
  obtain ⟨⟨pa, pb, u0, u1, v0, v1⟩, -, -⟩ := corE_zero he
  have z2 : IntKind.i64.wrap (u + (jm : Int)) = u + jm := IntWalk.i64_in _ (by omega)
  have z3 : IntKind.i64.wrap (v + (jf : Int)) = v + jf := IntWalk.i64_in _ (by omega)
  have hu1 : u ≤ min 100000 (u + (jm : Int)) ∧ min 100000 (u + (jm : Int)) ≤ 100000 := by omega
  have hv1 : v ≤ min 100000 (v + (jf : Int)) ∧ min 100000 (v + (jf : Int)) ≤ 100000 := by omega
  have f3 := fun w1 => corridor_any ⟨ax, ay⟩ ⟨bx, by'⟩ (min 100000 (u + (jm : Int))) (min 100000 (v + (jf : Int))) w1
  have H3 : corE ⟨ax, ay⟩ (min 100000 (u + (jm : Int))) ⟨bx, by'⟩ (min 100000 (v + (jf : Int))) ≠ 0 → corE ⟨ax, ay⟩ (min 100000 (u + (jm : Int))) ⟨bx, by'⟩ (min 100000 (v + (jf : Int))) = 3 := fun h => cor_err pa pb ⟨by omega, hu1.2⟩ ⟨by omega, hv1.2⟩ h
  have HW := fun h' x hx => wider_has he h' hu1.1 hv1.1 (x := x) hx
  have hcl : (corL ⟨ax, ay⟩ u ⟨bx, by'⟩ v).length ≤ 64 := by
    unfold corL; rw [if_pos he]; exact (cor_valid he).2.1
  generalize hmu : min 100000 (u + (jm : Int)) = u' at *
  generalize hmv : min 100000 (v + (jf : Int)) = v' at *
  rw [he] at f1 f2
  generalize corL ⟨ax, ay⟩ u ⟨bx, by'⟩ v = cl at *
  replace f1 := Lib.hid f1
  replace f2 := Lib.hid f2
  clear he hu1 hv1 pa pb u0 u1 v0 v1
  by_cases hg : corE ⟨ax, ay⟩ u' ⟨bx, by'⟩ v' = 0
  case neg =>
    rw [H3 hg] at f3
    replace f3 := Lib.hid f3
    clear HW H3 hg
    go_enter Try.func5, Try.ntmps5
    have q0 := Has.new w #[.int .i64 ax, .int .i64 ay] 38
    have q0 := q0.below ((Below.refl (w.heap.size + 1) _).alloc (by simp) (.cells #[.int .i64 bx, .int .i64 by'] 38)) (by omega)
    have q1 := Has.new (w.alloc (.cells #[.int .i64 ax, .int .i64 ay] 38)) #[.int .i64 bx, .int .i64 by'] 38
    rw [World.size_alloc] at q1
    go_wp2_with fail
    have PA := Lib.hid (show Has ((w.alloc (.cells #[.int .i64 ax, .int .i64 ay] 38)).alloc (.cells #[.int .i64 bx, .int .i64 by'] 38)) (w.heap.size) #[.int .i64 ax, .int .i64 ay] 38 from q0)
    have PB := Lib.hid (show Has ((w.alloc (.cells #[.int .i64 ax, .int .i64 ay] 38)).alloc (.cells #[.int .i64 bx, .int .i64 by'] 38)) (w.heap.size + 1) #[.int .i64 bx, .int .i64 by'] 38 from q1)
    have BX0 := Lib.hid (B0.out.trans (((((Below.refl w.heap.size w).alloc (Nat.le_refl _) (.cells #[.int .i64 ax, .int .i64 ay] 38)).alloc (by simp) (.cells #[.int .i64 bx, .int .i64 by'] 38))).mono B0.out.size))
    generalize hXX0 : ((w.alloc (.cells #[.int .i64 ax, .int .i64 ay] 38)).alloc (.cells #[.int .i64 bx, .int .i64 by'] 38)) = X0 at *
    clear hXX0
    have x0 := PA.out.cell (i := 0) rfl; have x1 := PA.out.cell (i := 1) rfl
    have y0 := PB.out.cell (i := 0) rfl; have y1 := PB.out.cell (i := 1) rfl
    clear q0 q1
    have hz0 := BX0.out.size
    refine (hd.out _).mono ?_
    rintro e w1 ⟨rfl, b1⟩
    have B1 := Lib.hid (BX0.out.trans (b1.mono BX0.out.size))
    replace PA := Lib.hid (PA.out.below b1 PA.out.lt)
    replace PB := Lib.hid (PB.out.below b1 PB.out.lt)
    clear b1
    clear x0 x1 y0 y1
    have x0 := PA.out.cell (i := 0) rfl; have x1 := PA.out.cell (i := 1) rfl
    have y0 := PB.out.cell (i := 0) rfl; have y1 := PB.out.cell (i := 1) rfl
    go_wp2_with fail
    refine (f1.out _).mono ?_
    rintro e w2 ⟨v2, rfl, p2, b2⟩
    have B2 := Lib.hid (B1.out.trans (b2.mono B1.out.size))
    replace PA := Lib.hid (PA.out.below b2 PA.out.lt)
    replace PB := Lib.hid (PB.out.below b2 PB.out.lt)
    obtain ⟨ga2, gc2, hv2⟩ := p2.len
    subst hv2
    have P1 := Lib.hid p2
    clear p2
    clear b2
    clear x0 x1 y0 y1
    have x0 := PA.out.cell (i := 0) rfl; have x1 := PA.out.cell (i := 1) rfl
    have y0 := PB.out.cell (i := 0) rfl; have y1 := PB.out.cell (i := 1) rfl
    go_wp2_with fail
    refine (f2.out _).mono ?_
    rintro e w3 ⟨v3, rfl, p3, b3⟩
    have B3 := Lib.hid (B2.out.trans (b3.mono B2.out.size))
    replace PA := Lib.hid (PA.out.below b3 PA.out.lt)
    replace PB := Lib.hid (PB.out.below b3 PB.out.lt)
    replace P1 := Lib.hid ((P1.out.below b3).mono b3.size)
    obtain ⟨ga3, gc3, hv3⟩ := p3.len
    subst hv3
    have P2 := Lib.hid p3
    clear p3
    clear b3
    clear x0 x1 y0 y1
    have x0 := PA.out.cell (i := 0) rfl; have x1 := PA.out.cell (i := 1) rfl
    have y0 := PB.out.cell (i := 0) rfl; have y1 := PB.out.cell (i := 1) rfl
    go_wp2_with fail
    have dc : decide (cl = cl) = true := by simp
    refine (samepts_any _ _ cl cl _ P1.out P2.out).mono ?_
    rintro e w4 ⟨rfl, b4⟩
    have B4 := Lib.hid (B3.out.trans (b4.mono B3.out.size))
    clear P2
    replace PA := Lib.hid (PA.out.below b4 PA.out.lt)
    replace PB := Lib.hid (PB.out.below b4 PB.out.lt)
    replace P1 := Lib.hid ((P1.out.below b4).mono b4.size)
    clear b4
    clear x0 x1 y0 y1
    have x0 := PA.out.cell (i := 0) rfl; have x1 := PA.out.cell (i := 1) rfl
    have y0 := PB.out.cell (i := 0) rfl; have y1 := PB.out.cell (i := 1) rfl
    go_wp2_with fail
    refine (f3.out _).mono ?_
    rintro e w5 ⟨v5, rfl, p5, b5⟩
    have B5 := Lib.hid (B4.out.trans (b5.mono B4.out.size))
    replace PA := Lib.hid (PA.out.below b5 PA.out.lt)
    replace PB := Lib.hid (PB.out.below b5 PB.out.lt)
    replace P1 := Lib.hid ((P1.out.below b5).mono b5.size)
    obtain ⟨ga5, gc5, hv5⟩ := p5.len
    subst hv5
    have P3 := Lib.hid p5
    clear p5
    clear b5
    clear x0 x1 y0 y1
    have x0 := PA.out.cell (i := 0) rfl; have x1 := PA.out.cell (i := 1) rfl
    have y0 := PB.out.cell (i := 0) rfl; have y1 := PB.out.cell (i := 1) rfl
    clear x0 x1 y0 y1
    go_wp2
    go_ret
    exact ⟨rfl, B5.out⟩
  rw [hg] at f3
  replace HW := HW hg
  generalize corL ⟨ax, ay⟩ u' ⟨bx, by'⟩ v' = wl at *
  replace f3 := Lib.hid f3
  have fh := Lib.hid (fun v x w1 h => has_any v wl x w1 h)
  replace HW := Lib.hid HW
  clear H3 hg
  go_enter Try.func5, Try.ntmps5
  have q0 := Has.new w #[.int .i64 ax, .int .i64 ay] 38
  have q0 := q0.below ((Below.refl (w.heap.size + 1) _).alloc (by simp) (.cells #[.int .i64 bx, .int .i64 by'] 38)) (by omega)
  have q1 := Has.new (w.alloc (.cells #[.int .i64 ax, .int .i64 ay] 38)) #[.int .i64 bx, .int .i64 by'] 38
  rw [World.size_alloc] at q1
  go_wp2_with fail
  have PA := Lib.hid (show Has ((w.alloc (.cells #[.int .i64 ax, .int .i64 ay] 38)).alloc (.cells #[.int .i64 bx, .int .i64 by'] 38)) (w.heap.size) #[.int .i64 ax, .int .i64 ay] 38 from q0)
  have PB := Lib.hid (show Has ((w.alloc (.cells #[.int .i64 ax, .int .i64 ay] 38)).alloc (.cells #[.int .i64 bx, .int .i64 by'] 38)) (w.heap.size + 1) #[.int .i64 bx, .int .i64 by'] 38 from q1)
  have BX0 := Lib.hid (B0.out.trans (((((Below.refl w.heap.size w).alloc (Nat.le_refl _) (.cells #[.int .i64 ax, .int .i64 ay] 38)).alloc (by simp) (.cells #[.int .i64 bx, .int .i64 by'] 38))).mono B0.out.size))
  generalize hXX0 : ((w.alloc (.cells #[.int .i64 ax, .int .i64 ay] 38)).alloc (.cells #[.int .i64 bx, .int .i64 by'] 38)) = X0 at *
  clear hXX0
  have x0 := PA.out.cell (i := 0) rfl; have x1 := PA.out.cell (i := 1) rfl
  have y0 := PB.out.cell (i := 0) rfl; have y1 := PB.out.cell (i := 1) rfl
  clear q0 q1
  have hz0 := BX0.out.size
  refine (hd.out _).mono ?_
  rintro e w1 ⟨rfl, b1⟩
  have B1 := Lib.hid (BX0.out.trans (b1.mono BX0.out.size))
  replace PA := Lib.hid (PA.out.below b1 PA.out.lt)
  replace PB := Lib.hid (PB.out.below b1 PB.out.lt)
  clear b1
  clear x0 x1 y0 y1
  have x0 := PA.out.cell (i := 0) rfl; have x1 := PA.out.cell (i := 1) rfl
  have y0 := PB.out.cell (i := 0) rfl; have y1 := PB.out.cell (i := 1) rfl
  go_wp2_with fail
  refine (f1.out _).mono ?_
  rintro e w2 ⟨v2, rfl, p2, b2⟩
  have B2 := Lib.hid (B1.out.trans (b2.mono B1.out.size))
  replace PA := Lib.hid (PA.out.below b2 PA.out.lt)
  replace PB := Lib.hid (PB.out.below b2 PB.out.lt)
  obtain ⟨ga2, gc2, hv2⟩ := p2.len
  subst hv2
  have P1 := Lib.hid p2
  clear p2
  clear b2
  clear x0 x1 y0 y1
  have x0 := PA.out.cell (i := 0) rfl; have x1 := PA.out.cell (i := 1) rfl
  have y0 := PB.out.cell (i := 0) rfl; have y1 := PB.out.cell (i := 1) rfl
  go_wp2_with fail
  refine (f2.out _).mono ?_
  rintro e w3 ⟨v3, rfl, p3, b3⟩
  have B3 := Lib.hid (B2.out.trans (b3.mono B2.out.size))
  replace PA := Lib.hid (PA.out.below b3 PA.out.lt)
  replace PB := Lib.hid (PB.out.below b3 PB.out.lt)
  replace P1 := Lib.hid ((P1.out.below b3).mono b3.size)
  obtain ⟨ga3, gc3, hv3⟩ := p3.len
  subst hv3
  have P2 := Lib.hid p3
  clear p3
  clear b3
  clear x0 x1 y0 y1
  have x0 := PA.out.cell (i := 0) rfl; have x1 := PA.out.cell (i := 1) rfl
  have y0 := PB.out.cell (i := 0) rfl; have y1 := PB.out.cell (i := 1) rfl
  go_wp2_with fail
  have dc : decide (cl = cl) = true := by simp
  refine (samepts_any _ _ cl cl _ P1.out P2.out).mono ?_
  rintro e w4 ⟨rfl, b4⟩
  have B4 := Lib.hid (B3.out.trans (b4.mono B3.out.size))
  clear P2
  replace PA := Lib.hid (PA.out.below b4 PA.out.lt)
  replace PB := Lib.hid (PB.out.below b4 PB.out.lt)
  replace P1 := Lib.hid ((P1.out.below b4).mono b4.size)
  clear b4
  clear x0 x1 y0 y1
  have x0 := PA.out.cell (i := 0) rfl; have x1 := PA.out.cell (i := 1) rfl
  have y0 := PB.out.cell (i := 0) rfl; have y1 := PB.out.cell (i := 1) rfl
  go_wp2_with fail
  refine (f3.out _).mono ?_
  rintro e w5 ⟨v5, rfl, p5, b5⟩
  have B5 := Lib.hid (B4.out.trans (b5.mono B4.out.size))
  replace PA := Lib.hid (PA.out.below b5 PA.out.lt)
  replace PB := Lib.hid (PB.out.below b5 PB.out.lt)
  replace P1 := Lib.hid ((P1.out.below b5).mono b5.size)
  obtain ⟨ga5, gc5, hv5⟩ := p5.len
  subst hv5
  have P3 := Lib.hid p5
  clear p5
  clear b5
  clear x0 x1 y0 y1
  have x0 := PA.out.cell (i := 0) rfl; have x1 := PA.out.cell (i := 1) rfl
  have y0 := PB.out.cell (i := 0) rfl; have y1 := PB.out.cell (i := 1) rfl
  clear x0 x1 y0 y1 PA PB
  go_wp2
  obtain ⟨wL, hwL⟩ : ∃ x, x = w5 := ⟨_, rfl⟩
  subst hwL
  go_loopw [13, 78] (fun vu vi wr => ∃ k : Nat, k ≤ cl.length ∧ vi = .int .i64 (k : Int) ∧ vu = .bool true ∧ Below wL.heap.size wL wr) (fun _ vi _ => cl.length - (intOf vi).toNat)
  case atStart => exact ⟨0, by omega, rfl, rfl, Below.refl _ _⟩
  case round =>
    obtain ⟨k, hk, rfl, rfl, hB⟩ := hrel
    have hzB := hB.size
    have BR := Lib.hid hB
    have P1r := (P1.out.below hB).mono hzB
    have P3r := Lib.hid ((P3.out.below hB).mono hzB)
    clear hB
    by_cases hlt : k < cl.length
    · have d1 : decide ((k : Int) < (cl.length : Int)) = true := by simp; omega
      obtain ⟨bp, op, hcp, hv0, hbp, hcc⟩ := pts_cells P1r (by omega)
      simp only [Value.slice.injEq, true_and] at hv0
      obtain ⟨hv0, -⟩ := hv0
      subst hv0
      obtain ⟨q0, q1⟩ := hcc k hlt
      obtain ⟨h1, h2⟩ := HW.out (nth cl k) (nth_mem' hlt)
      have fk := fh.out
      replace fk := fun v w1 h => fk v (nth cl k) w1 h
      rw [h1, h2] at fk
      generalize (nth cl k).x = x at *
      generalize (nth cl k).y = y at *
      replace fk := Lib.hid fk
      have kl : (k : Int) < cl.length := by omega
      have k0 : (0 : Int) ≤ k := by omega
      clear hcc P1r h1 h2
      have BA := Lib.hid (show Below wr.heap.size wr (wr.alloc (.cells #[.int .i64 x, .int .i64 y] 38)) from (Below.refl _ _).alloc (Nat.le_refl _) _)
      go_wp2_with fail
      refine (fk.out _ _ ((P3r.out.below BA.out).mono BA.out.size)).mono ?_
      rintro e wa ⟨rfl, ba⟩
      have BZ := Lib.hid (BR.out.trans ((BA.out.trans (ba.mono BA.out.size)).mono BR.out.size))
      clear ba q0 q1
      go_wp2
      go_roundw
      case rel => exact ⟨k + 1, by omega, by go_num, rfl, BZ.out⟩
      case measure => simp [intOf]; omega
    · obtain rfl : k = cl.length := by omega
      have d1 : decide ((cl.length : Int) < (cl.length : Int)) = false := by simp
      clear P1r
      go_wp2
      go_ret
      exact ⟨rfl, B5.out.trans (BR.out.mono B5.out.size)⟩

set_option maxRecDepth 100000 in
theorem lifted (os : Os) (started : os.Started) (H : Type) (enc : TypeId × Value → H) :
    ReturnsInHanded {} Try.checked os 5 .any (Rows.spreadWiderSpec.pre6 enc Try.prog Try.f5 Rows.spreadWiderRow.domain false) (Rows.spreadWiderSpec.post enc Try.prog Try.f5 false true false false) := by
  refine returnsInHanded_of_change_sized (C := Try.checked) own started (by kernel_rfl) Try.func5
    (ChangeSpec.witness6 (enc := enc) (C := Try.checked) false ⟨#[], #[.agg #[.int .i64 0, .int .i64 0], .agg #[.int .i64 0, .int .i64 0], .int .i64 0, .int .i64 0, .int .u16 0, .int .u16 0], []⟩ 8 (by kernel_rfl) (by kernel_rfl) (by kernel_rfl) (by kernel_rfl)) ?_
  intro W base args ds gs before hval0 hW hcnd hsz0 _
  have hval : ∀ (j : Nat) t v, Try.f5.params[j]? = some t → args[j]? = some v → Value.okWide Try.prog W .any base t v := hval0
  have hW' := hW
  obtain ⟨p, q, hA0, hV, rfl, hfz, hnd⟩ := hW
  have hA : DataW.TrodAll enc Try.prog W 0 (fun _ => true) true Try.f5.params.toList args.toList ds p := hA0
  have hsz : (DataW.weightsEach Try.prog (Try.f5.params.toList ++ Rows.spreadWiderSpec.plain.varTypes Try.prog) (ds ++ gs)).all (· ≤ reachBytes) = true := hsz0
  rw [Try.params5] at hA hval hsz
  obtain ⟨v0, vs0, d0, ds0, p0, q0, hargs, rfl, rfl, h0, r0⟩ := trodAll_cons hA
  obtain ⟨v1, vs1, d1, ds1, p1, q1, rfl, rfl, rfl, h1, r1⟩ := trodAll_cons r0
  obtain ⟨v2, vs2, d2, ds2, p2, q2, rfl, rfl, rfl, h2, r2⟩ := trodAll_cons r1
  obtain ⟨v3, vs3, d3, ds3, p3, q3, rfl, rfl, rfl, h3, r3⟩ := trodAll_cons r2
  obtain ⟨v4, vs4, d4, ds4, p4, q4, rfl, rfl, rfl, h4, r4⟩ := trodAll_cons r3
  obtain ⟨v5, vs5, d5, ds5, p5, q5, rfl, rfl, rfl, h5, r5⟩ := trodAll_cons r4
  obtain ⟨rfl, rfl, rfl⟩ := trodAll_nil r5
  obtain rfl : args = #[v0, v1, v2, v3, v4, v5] := by cases args; simp_all
  obtain ⟨rfl, rfl⟩ := trodVars_none hV
  have k0 := h0
  have lt0 : ∀ x ∈ p0, x.block < W.heap.size := by obtain ⟨m, hm⟩ := k0; exact DataW.trod_lt m _ _ _ hm
  obtain ⟨a0, b0, rfl⟩ := open_point (hval 0 38 v0 rfl rfl) h0
  have k1 := h1
  have lt1 : ∀ x ∈ p1, x.block < W.heap.size := by obtain ⟨m, hm⟩ := k1; exact DataW.trod_lt m _ _ _ hm
  obtain ⟨a1, b1, rfl⟩ := open_point (hval 1 38 v1 rfl rfl) h1
  obtain ⟨a2, rfl, rfl, rfl, w2⟩ := open_int Try.underlying3 (hval 2 3 v2 rfl rfl) h2
  obtain ⟨a3, rfl, rfl, rfl, w3⟩ := open_int Try.underlying3 (hval 3 3 v3 rfl rfl) h3
  obtain ⟨a4, rfl, rfl, rfl, w4⟩ := open_int Try.underlying47 (hval 4 47 v4 rfl rfl) h4
  obtain ⟨a5, rfl, rfl, rfl, w5⟩ := open_int Try.underlying47 (hval 5 47 v5 rfl rfl) h5
  clear hA0 hval0
  refine (walk W a0 b0 a1 b1 a2 a3 a4 a5 w2 w3 w4 w5).mono fun e W' ⟨he, bel⟩ => ?_
  subst he
  exact ⟨_, rfl, _, _, _, [], _, [], hW', trodAll_mk1 (shut_bool Try.underlying4 _), (trodAll_cons_mk (Below.trod laidOut (by kernel_rfl) (of_decide_eq_true (by kernel_rfl)) k0 bel lt0) (trodAll_cons_mk (Below.trod laidOut (by kernel_rfl) (of_decide_eq_true (by kernel_rfl)) k1 bel lt1) (trodAll_cons_mk (shut_int Try.underlying3 w2) (trodAll_cons_mk (shut_int Try.underlying3 w3) (trodAll_cons_mk (shut_int Try.underlying47 w4) (trodAll_cons_mk (shut_int Try.underlying47 w5) trodAll_mk0)))))), rfl, bel.frame _, fun h => by cases h⟩

theorem over : Rows.spreadWiderRow.holds Try.pinned (OpenSpec.ofChange Rows.spreadWiderSpec) :=
  OpenClaim.holds_of_wide 5 Try.f5 rfl rfl rfl rfl rfl rfl rfl ⟨rfl, rfl, rfl, rfl, rfl⟩ rfl rfl rfl rfl rfl (by kernel_rfl) Try.func5 (by kernel_rfl)
    (of_decide_eq_true (by kernel_rfl)) (by unfold Func.isWrapper; first | (rw [if_pos (by decide +kernel)]; kernel_rfl) | (rw [if_neg (by decide +kernel)]; exact ⟨rfl, rfl⟩))
    (fun os started H enc _ => lifted os started H enc)

/-- the statement -/
theorem proved : Rows.SpreadWiderSaid := over
#print axioms proved
end Go.Proofs.Ytoekcefhphcjjaa.spreadWider
