/- The head of the laws of layer 31. -/
import Derived.Test.YtjnjmpakmgmdbaaExample
namespace Go.Proofs.Ytjnjmpakmgmdbaa
open Go.RowKit
attribute [local irreducible] wpQuiet

theorem ex_leg01 : legV exM 0 1 = .tuple #[.int .i64 500, .int .i64 50, .int .i64 15, .int .i64 0] := by
  have h : okL exM 0 1 = true := okL_mk (a := 0) (b := 1) exM_valid (by decide) (by decide)
  simp only [legV, legA, legT, legG, legE, h, if_true]
  have d := exM_dist.1
  show Value.tuple #[.int .i64 (dLeg exM 0 1), .int .i64 (lastsV exM.speed (dLeg exM 0 1)), .int .i64 (growthV exM.speed exM.part exM.flow (dLeg exM 0 1)), .int .i64 0] = _
  rw [d, exM_g.1, exM_g.2.1]
theorem ex_leg31 : legV exM 3 1 = .tuple #[.int .i64 0, .int .i64 0, .int .i64 0, .int .i64 0] := by
  have h : okL exM 3 1 = true := okL_mk (a := 3) (b := 1) exM_valid (by decide) (by decide)
  simp only [legV, legA, legT, legG, legE, h, if_true]
  have d := exM_dist.2.2.2.2.2
  show Value.tuple #[.int .i64 (dLeg exM 3 1), .int .i64 (lastsV exM.speed (dLeg exM 3 1)), .int .i64 (growthV exM.speed exM.part exM.flow (dLeg exM 3 1)), .int .i64 0] = _
  rw [d, exM_g.2.2]
  rfl
theorem no_leg : legV noM 0 0 = .tuple #[.int .i64 0, .int .i64 0, .int .i64 0, .int .i64 1] := by
  have h : okL noM 0 0 = false := by simp [okL, noM_valid]
  simp only [legV, legA, legT, legG, legE, h, Bool.false_eq_true, if_false]
theorem ex_route3 : routeR exM 3 = [3, 1, 0] ∧ routeE exM 3 = 0 := by
  have h : okR exM 3 = true := okR_mk (a := 3) exM_valid (by decide)
  simp only [routeR, routeE, h, if_true]
  exact ⟨by show intL (upto (itB exM 3) (dep exM 3 + 1)) = _; rw [exM_route]; rfl, trivial⟩
theorem ex_route4 : routeR exM 4 = [] ∧ routeE exM 4 = 1 := by
  have h : okR exM 4 = false := by simp [okR, ixB, exM]
  simp only [routeR, routeE, h, Bool.false_eq_true, if_false]
  exact ⟨trivial, trivial⟩
theorem noM_at (n : Nat) (W : World) : MsnAt n W noM (.slice none 0 0) (.slice none 0 0) (.slice none 0 0) :=
  ⟨⟨by simp [noM], none, 0, rfl, .inl rfl⟩, ⟨by simp [noM], none, 0, rfl, .inl rfl⟩, ⟨by simp [noM], none, 0, rfl, .inl rfl⟩⟩

/-- a list written out, in a new block -/
theorem ints_new (w : World) (l : List Int) (T : TypeId) (hl : l.length ≤ 1000) : IntsAt (w.alloc (.cells (l.map (Value.int .i64)).toArray T)).heap.size (w.alloc (.cells (l.map (Value.int .i64)).toArray T)) (.slice (some ⟨w.heap.size, 0, none⟩) l.length l.length) l := by
  refine ⟨by omega, some ⟨w.heap.size, 0, none⟩, 0, rfl, .inr ⟨w.heap.size, 0, rfl, by simp, fun j hj => ?_⟩⟩
  rw [Nat.zero_add]
  exact (Has.new w _ T).cell (by simp [List.getD, List.getElem?_eq_getElem hj])

set_option maxRecDepth 8000 in
set_option maxHeartbeats 2000000 in
theorem head31_any (w : World) : Calls Try.prog 15 #[] w fun e w' => e = .returned (.bool true) ∧ Below w.heap.size w w' := by
  go_enter Try.func15, Try.ntmps15
  go_wp2_with fail
  refine (example_any _).mono ?_
  rintro e w1 ⟨vw, vh, vr, rfl, hm, B1⟩
  have HM := Lib.hid hm
  obtain ⟨⟨_, aw, cw, rfl, _⟩, ⟨_, ah, ch, rfl, _⟩, ⟨_, ar, cr, rfl, _⟩⟩ := hm
  rw [show exM.ways.length = 4 from rfl, show exM.home.length = 1 from rfl, show exM.rocks.length = 0 from rfl, Nat.zero_add] at HM ⊢
  have hl1 := fun w1 h => leg_all exM (.slice aw 4 (4 + cw)) (.slice ah 1 (1 + ch)) (.slice ar 0 cr) 0 1 w1 h
  rw [ex_leg01] at hl1
  have hl2 := fun w1 h => leg_all exM (.slice aw 4 (4 + cw)) (.slice ah 1 (1 + ch)) (.slice ar 0 cr) 3 1 w1 h
  rw [ex_leg31] at hl2
  have hr1 := fun w1 h => route_all exM (.slice aw 4 (4 + cw)) (.slice ah 1 (1 + ch)) (.slice ar 0 cr) 3 w1 h
  rw [ex_route3.1, ex_route3.2] at hr1
  have hr2 := fun w1 h => route_all exM (.slice aw 4 (4 + cw)) (.slice ah 1 (1 + ch)) (.slice ar 0 cr) 4 w1 h
  rw [ex_route4.1, ex_route4.2] at hr2
  have hv1 := fun w1 h => valid_any exM (.slice aw 4 (4 + cw)) (.slice ah 1 (1 + ch)) (.slice ar 0 cr) w1 h
  rw [exM_valid] at hv1
  have hv2 := fun w1 => valid_any noM (.slice none 0 0) (.slice none 0 0) (.slice none 0 0) w1 (noM_at _ _)
  rw [noM_valid] at hv2
  have hl3 := fun w1 => leg_all noM (.slice none 0 0) (.slice none 0 0) (.slice none 0 0) 0 0 w1 (noM_at _ _)
  rw [no_leg] at hl3
  have HL := Lib.hid (And.intro hl1 (And.intro hl2 (And.intro hr1 (And.intro hr2 (And.intro hv1 (And.intro hv2 hl3))))))
  have H0 := Has.new w1 (msnCells exM (.slice aw 4 (4 + cw)) (.slice ah 1 (1 + ch)) (.slice ar 0 cr)) 26
  have H0' := Lib.hid H0
  clear hl1 hl2 hl3 hr1 hr2 hv1 hv2 H0
  unfold msnCells exM noM at *
  dsimp only at *
  go_wp2_with fail
  refine (HL.out.1 _ ((HM.out.below ((Below.refl _ _).alloc (Nat.le_refl _) _)).mono (by simp))).mono ?_
  rintro e w2 ⟨rfl, hb2⟩
  have B2 : Below w1.heap.size w1 w2 := ((Below.refl _ w1).alloc (Nat.le_refl _) _).trans (hb2.mono (by simp))
  have H2 := H0'.out.below (hb2.mono (by simp) : Below (w1.heap.size + 1) _ w2) (by omega)
  have z2 := H2.lt
  have H2' := Lib.hid H2
  obtain ⟨c0, c1, c2, c3, c4, c5, c6, c7, c8, c9, c10⟩ := msn_cells (m := exM) H2
  clear hb2 H2
  go_wp2_with fail
  refine (HL.out.2.2.1 _ ((HM.out.below B2).mono B2.size)).mono ?_
  rintro e w3 ⟨v3, rfl, hI3, hb3⟩
  have hI3' := Lib.hid hI3
  have B3 := B2.trans (hb3.mono B2.size)
  have H3 := H2'.out.below hb3 z2
  have z3 := H3.lt
  have H3' := Lib.hid H3
  obtain ⟨c0, c1, c2, c3, c4, c5, c6, c7, c8, c9, c10⟩ := msn_cells (m := exM) H3
  clear hb3 H3 hI3
  go_wp2_with fail
  refine (HL.out.2.1 _ ((HM.out.below B3).mono B3.size)).mono ?_
  rintro e w4 ⟨rfl, hb4⟩
  have B4 := B3.trans (hb4.mono B3.size)
  have H4 := H3'.out.below hb4 z3
  have z4 := H4.lt
  have H4' := Lib.hid H4
  have hI4' := Lib.hid (hI3'.out.below hb4)
  obtain ⟨c0, c1, c2, c3, c4, c5, c6, c7, c8, c9, c10⟩ := msn_cells (m := exM) H4
  have y4 := hb4.size
  clear hb4 H4
  go_wp2_with fail
  refine (HL.out.2.2.2.1 _ ((HM.out.below B4).mono B4.size)).mono ?_
  rintro e w5 ⟨v5, rfl, hI5, hb5⟩
  have B5 := B4.trans (hb5.mono B4.size)
  have H5 := H4'.out.below hb5 z4
  have z5 := H5.lt
  have H5' := Lib.hid H5
  have hI5' := Lib.hid (hI4'.out.below (hb5.mono y4))
  obtain ⟨c0, c1, c2, c3, c4, c5, c6, c7, c8, c9, c10⟩ := msn_cells (m := exM) H5
  have y5 := Nat.le_trans y4 hb5.size
  clear hb5 H5 hI5
  go_wp2_with fail
  refine (HL.out.2.2.2.2.2.2 _).mono ?_
  rintro e w6 ⟨rfl, hb6⟩
  have B6 := B5.trans (hb6.mono B5.size)
  have H6 := H5'.out.below hb6 z5
  have z6 := H6.lt
  have H6' := Lib.hid H6
  have hI6' := Lib.hid (hI5'.out.below (hb6.mono y5))
  obtain ⟨c0, c1, c2, c3, c4, c5, c6, c7, c8, c9, c10⟩ := msn_cells (m := exM) H6
  have y6 := Nat.le_trans y5 hb6.size
  clear hb6 H6
  go_wp2_with fail
  refine (HL.out.2.2.2.2.1 _ ((HM.out.below B6).mono B6.size)).mono ?_
  rintro e w7 ⟨rfl, hb7⟩
  have B7 := B6.trans (hb7.mono B6.size)
  have hI7' := Lib.hid (hI6'.out.below (hb7.mono y6))
  have y7 := Nat.le_trans y6 hb7.size
  clear hb7
  go_wp2_with fail
  refine (HL.out.2.2.2.2.2.1 _).mono ?_
  rintro e w8 ⟨rfl, hb8⟩
  have B8 := B7.trans (hb8.mono B7.size)
  have hI8' := Lib.hid (hI7'.out.below (hb8.mono y7))
  have y8 := Nat.le_trans y7 hb8.size
  clear hb8
  go_wp2_with fail
  have bA : Below w8.heap.size w8 (w8.alloc (.cells #[.int .i64 3, .int .i64 1, .int .i64 0] 3)) := (Below.refl _ _).alloc (Nat.le_refl _) _
  refine (same_any _ _ [3, 1, 0] [3, 1, 0] _ ((hI8'.out.below (bA.mono y8)).mono (Nat.le_trans y8 bA.size)) (ints_new w8 [3, 1, 0] 3 (by simp))).mono ?_
  rintro e w9 ⟨rfl, hb9⟩
  have d9 : decide (([3, 1, 0] : List Int) = [3, 1, 0]) = true := by decide
  have B9 := Lib.hid (B1.trans ((B8.trans ((bA.mono B8.size).trans (hb9.mono (Nat.le_trans B8.size bA.size)))).mono B1.size))
  clear hb9 bA
  go_wp2
  go_ret
  exact ⟨rfl, B9.out⟩
end Go.Proofs.Ytjnjmpakmgmdbaa
