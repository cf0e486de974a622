/- The examples at the head of the laws of layer 31. | The head of the laws of layer 31. -/
import Derived.Test.YtjnjmpakmgmdbaaAll
namespace Go.Proofs.Ytjnjmpakmgmdbaa
open Go.RowKit
attribute [local irreducible] wpQuiet

/-- the mission of the examples -/
def exM : Msn := ⟨[⟨0, 0, 0, 0, 0⟩, ⟨300, 400, 0, 0, 0⟩, ⟨600, 800, 0, 0, 1⟩, ⟨300, 400, 0, 0, 1⟩], [⟨0, 0⟩], 0, [], 1000, 10, 20, 0, 0, 0, 0⟩
/-- the zero mission -/
def noM : Msn := ⟨[], [], 0, [], 0, 0, 0, 0, 0, 0, 0⟩

theorem dist_of {ax ay bx by' n : Int} (h0 : 0 ≤ n) (h : (ax - bx) * (ax - bx) + (ay - by') * (ay - by') = n * n) : distV ax ay bx by' = n := by
  unfold distV
  rw [h]
  have hs := rootUp_spec (s := n * n) (Int.mul_nonneg h0 h0)
  have h1 := hs.2.2 n h0 (Int.le_refl _)
  rcases Int.lt_or_le (rootUp (n * n)) n with h2 | h2
  · have h3 := Int.mul_le_mul (show rootUp (n * n) ≤ n - 1 by omega) (show rootUp (n * n) ≤ n - 1 by omega) hs.1 (by omega)
    have e : (n - 1) * (n - 1) = n * n - 2 * n + 1 := by rw [Int.sub_mul, Int.mul_sub]; omega
    omega
  · omega
theorem exM_dist : dLeg exM 0 1 = 500 ∧ dLeg exM 1 0 = 500 ∧ dLeg exM 1 2 = 500 ∧ dLeg exM 2 1 = 500 ∧ dLeg exM 2 3 = 500 ∧ dLeg exM 3 1 = 0 :=
  ⟨dist_of (by decide) (by decide), dist_of (by decide) (by decide), dist_of (by decide) (by decide), dist_of (by decide) (by decide), dist_of (by decide) (by decide), dist_of (by decide) (by decide)⟩
theorem exM_g : growthV exM.speed exM.part exM.flow 500 = 15 ∧ lastsV exM.speed 500 = 50 ∧ growthV exM.speed exM.part exM.flow 0 = 0 := by decide
theorem exM_grown : grownV exM = 75 := by
  obtain ⟨d1, d2, d3, d4, d5, d6⟩ := exM_dist
  obtain ⟨g1, _, g3⟩ := exM_g
  show exM.start + (gLeg exM 0 1 + gLeg exM 1 0) + (gLeg exM 1 2 + gLeg exM 2 1) + (gLeg exM 2 3 + gLeg exM 3 1) = 75
  unfold gLeg
  rw [d1, d2, d3, d4, d5, d6, g1, g3]
  rfl
theorem exM_valid : validB exM = true := by
  rw [validB_iff]
  refine ⟨by decide, by decide, by decide, by decide, ?_, ?_, by decide, by unfold legOk; decide, by decide, by decide, by decide, by decide, by rw [exM_grown]; decide⟩
  · simp only [goValid, decide_eq_true_eq]
    refine ⟨by decide, by decide, fun k hk => ?_, fun h => absurd h (by decide)⟩
    obtain rfl : k = 0 := by simp [exM] at hk; omega
    exact ⟨by decide, fun h => by omega⟩
  · simp [rocksB, exM]
theorem exM_route : upto (itB exM 3) (dep exM 3 + 1) = [3, 1, 0] := by decide
theorem noM_valid : validB noM = false := validB_no (fun v => by have := v.n2; simp [noM] at this)

theorem at_any (x y : Int) (w : World) :
    Calls Try.prog 72 #[.int .i64 x, .int .i64 y] w fun e w' => e = .returned (.agg #[.int .i64 x, .int .i64 y]) ∧ Below w.heap.size w w' := by
  go_enter Try.func72, Try.ntmps72
  go_wp2
  exact bodyPost_ret (v := .agg #[.int .i64 x, .int .i64 y]) (by simp [results, Try.f72, go_sem]) rfl ⟨rfl, by repeat (first | exact Below.refl _ _ | assumption | apply Below.drew | refine Below.setCell ?_ (by first | omega | (simp; done) | (simp; omega)) _ | refine Below.alloc ?_ (by first | omega | (simp; done) | (simp; omega)) _ | refine Below.call (by assumption) ?_ (by first | omega | (simp; done) | (simp; omega)))⟩

/-- a mission comes back, and lies in memory -/
def MsnQ (m : Msn) (w : World) (e : Ending) (w' : World) : Prop := ∃ vw vh vr, e = .returned (.agg (msnCells m vw vh vr)) ∧ MsnAt w'.heap.size w' m vw vh vr ∧ Below w.heap.size w w'

/-- only one block has turned -/
structure StoresAt (b : Nat) (W W' : World) : Prop where
  size : W'.heap.size = W.heap.size
  same : ∀ c, c ≠ b → W'.heap[c]? = W.heap[c]?
  below : Below b W W'
theorem StoresAt.refl (b : Nat) (W : World) : StoresAt b W W := ⟨rfl, fun _ _ => rfl, Below.refl _ _⟩
theorem StoresAt.set {b : Nat} {W X : World} (h : StoresAt b W X) (i : Nat) (v : Value) : StoresAt b W (X.setCell ⟨b, i, none⟩ v) :=
  ⟨by rw [← h.size]; simp [World.setCell], fun c hc => (Below.heap_setCell X ⟨b, i, none⟩ v c hc).trans (h.same c hc), h.below.setCell (p := ⟨b, i, none⟩) (Nat.le_refl _) v⟩

theorem Has.set {W : World} {B : Nat} {cs : Array Value} {t : TypeId} (h : Has W B cs t) (i : Nat) (v : Value) : Has (W.setCell ⟨B, i, none⟩ v) B (cs.setIfInBounds i v) t := by
  obtain ⟨hlt, hk⟩ := Array.getElem?_eq_some_iff.1 h
  show (W.heap.modify B _)[B]? = _
  rw [Array.getElem?_eq_getElem (by rw [Array.size_modify]; exact hlt), Array.getElem_modify_self, hk]
  rfl
theorem lt4 {p : Nat → Prop} (h0 : p 0) (h1 : p 1) (h2 : p 2) (h3 : p 3) : ∀ j, j < 4 → p j := fun j hj => match j, hj with
  | 0, _ => h0
  | 1, _ => h1
  | 2, _ => h2
  | 3, _ => h3

theorem example_at {b5 b4 : Nat} {w5 Y : World} (hS : StoresAt b5 w5 Y) (h4 : b5 < b4)
    (HW : Has w5 b4 #[.int .i64 0, .int .i64 0, .int .i64 0, .int .i64 0, .int .i64 0, .int .i64 300, .int .i64 400, .int .i64 0, .int .i64 0, .int .i64 0, .int .i64 600, .int .i64 800, .int .i64 0, .int .i64 0, .int .i64 1, .int .i64 300, .int .i64 400, .int .i64 0, .int .i64 0, .int .i64 1] 40) :
    MsnAt (Y.alloc (.cells #[.int .i64 0, .int .i64 0] 38)).heap.size (Y.alloc (.cells #[.int .i64 0, .int .i64 0] 38)) exM (.slice (some ⟨b4, 0, none⟩) 4 4) (.slice (some ⟨w5.heap.size, 0, none⟩) 1 1) (.slice none 0 0) := by
  have H1 : Has (Y.alloc (.cells #[.int .i64 0, .int .i64 0] 38)) b4 _ _ := Has.below ((hS.same b4 (by omega)).trans HW : Has Y b4 _ _) ((Below.refl _ Y).alloc (Nat.le_refl _) _) (by rw [hS.size]; exact HW.lt)
  have H2 := Has.new Y #[.int .i64 0, .int .i64 0] 38
  have l1 := H1.lt
  have l2 := H2.lt
  rw [hS.size] at H2 l2
  refine ⟨⟨by simp [exM], some ⟨b4, 0, none⟩, 0, rfl, .inr ⟨b4, 0, rfl, l1, ?_⟩⟩, ⟨by simp [exM], some ⟨w5.heap.size, 0, none⟩, 0, rfl, .inr ⟨w5.heap.size, 0, rfl, l2, fun j hj => ?_⟩⟩, ⟨by simp [exM], none, 0, rfl, .inl rfl⟩⟩
  · refine lt4 ?_ ?_ ?_ ?_
    · exact ⟨H1.cell (i := 0) rfl, H1.cell (i := 1) rfl, H1.cell (i := 2) rfl, H1.cell (i := 3) rfl, H1.cell (i := 4) rfl⟩
    · exact ⟨H1.cell (i := 5) rfl, H1.cell (i := 6) rfl, H1.cell (i := 7) rfl, H1.cell (i := 8) rfl, H1.cell (i := 9) rfl⟩
    · exact ⟨H1.cell (i := 10) rfl, H1.cell (i := 11) rfl, H1.cell (i := 12) rfl, H1.cell (i := 13) rfl, H1.cell (i := 14) rfl⟩
    · exact ⟨H1.cell (i := 15) rfl, H1.cell (i := 16) rfl, H1.cell (i := 17) rfl, H1.cell (i := 18) rfl, H1.cell (i := 19) rfl⟩
  · obtain rfl : j = 0 := by simp [exM] at hj; omega
    exact ⟨H2.cell (i := 0) rfl, H2.cell (i := 1) rfl⟩

set_option maxRecDepth 4000 in
set_option maxHeartbeats 800000 in
theorem example_any (w : World) : Calls Try.prog 32 #[] w (MsnQ exM w) := by
  go_enter Try.func32, Try.ntmps32
  have H0 := Has.new w #[.slice none 0 0, .slice none 0 0, .int .i64 0, .slice none 0 0, .int .i64 0, .int .i64 0, .int .i64 0, .int .i64 0, .int .i64 0, .int .i64 0, .int .i64 0] 26
  have H0' := Lib.hid H0
  clear H0
  go_wp2_with fail
  refine (at_any _ _ _).mono ?_
  rintro e w1 ⟨rfl, hb1⟩
  have H1 := Lib.hid (Has.below H0'.out (hb1.mono (by simp) : Below (w.heap.size + 1) _ w1) (by omega))
  have B1 : Below w.heap.size w w1 := ((Below.refl _ w).alloc (Nat.le_refl _) _).trans (hb1.mono (by simp))
  go_wp2_with fail
  refine (at_any _ _ _).mono ?_
  rintro e w2 ⟨rfl, hb2⟩
  go_wp2_with fail
  refine (at_any _ _ _).mono ?_
  rintro e w3 ⟨rfl, hb3⟩
  go_wp2_with fail
  refine (at_any _ _ _).mono ?_
  rintro e w4 ⟨rfl, hb4⟩
  have z1 := H1.out.lt
  have B4 : Below w1.heap.size w1 w4 := hb2.trans ((hb3.mono hb2.size).trans (hb4.mono (Nat.le_trans hb2.size hb3.size)))
  clear hb1 hb2 hb3 hb4
  go_wp2_with fail
  refine (at_any _ _ _).mono ?_
  rintro e w5 ⟨rfl, hb5⟩
  have B5 : Below (w4.heap.size + 1) _ w5 := hb5.mono (by simp)
  have z4 := B4.size
  have z5 : w4.heap.size + 1 ≤ w5.heap.size := by have := hb5.size; simp at this; omega
  have H4 := Lib.hid (H1.out.below (B4.mono (by omega) : Below (w.heap.size + 1) w1 w4) (by omega))
  have HW : Has w5 w4.heap.size #[.int .i64 0, .int .i64 0, .int .i64 0, .int .i64 0, .int .i64 0, .int .i64 300, .int .i64 400, .int .i64 0, .int .i64 0, .int .i64 0, .int .i64 600, .int .i64 800, .int .i64 0, .int .i64 0, .int .i64 1, .int .i64 300, .int .i64 400, .int .i64 0, .int .i64 0, .int .i64 1] 40 :=
    Has.below (Has.new w4 _ _) B5 (by omega)
  have H5 : Has w5 w.heap.size _ _ := Has.below (Has.below H4.out ((Below.refl (w.heap.size + 1) w4).alloc (by omega) _) (by omega)) (B5.mono (by omega) : Below (w.heap.size + 1) _ w5) (by omega)
  have HH := Has.new w5 #[.int .i64 0, .int .i64 0] 38
  have bA : Below w5.heap.size w5 (w5.alloc (.cells #[.int .i64 0, .int .i64 0] 38)) := (Below.refl _ _).alloc (Nat.le_refl _) _
  have HW6 := HW.below bA HW.lt
  have H6 := H5.below bA H5.lt
  have z6 : w.heap.size < w5.heap.size := H5.lt
  have z7 : ¬ w.heap.size = w5.heap.size := by omega
  have c0 := H5.cell (i := 0) rfl
  have c1 := H5.cell (i := 1) rfl
  have c2 := H5.cell (i := 2) rfl
  have c3 := H5.cell (i := 3) rfl
  have c4 := H5.cell (i := 4) rfl
  have c5 := H5.cell (i := 5) rfl
  have c6 := H5.cell (i := 6) rfl
  have c7 := H5.cell (i := 7) rfl
  have c8 := H5.cell (i := 8) rfl
  have c9 := H5.cell (i := 9) rfl
  have c10 := H5.cell (i := 10) rfl
  have hf : ∀ i, w5.frozen? ⟨w.heap.size, i, none⟩ = false := cells_free H5
  have f0 := hf 0
  have f1 := hf 1
  have f2 := hf 2
  have f3 := hf 3
  have f4 := hf 4
  have f5 := hf 5
  have f6 := hf 6
  have f7 := hf 7
  have f8 := hf 8
  have f9 := hf 9
  have f10 := hf 10
  have hB5 : Below w.heap.size w w5 := B1.trans ((B4.mono (by omega)).trans (((Below.refl w.heap.size w4).alloc (by omega) _).trans (B5.mono (by omega))))
  have HX := Lib.hid (And.intro HW hB5)
  have H5' := Lib.hid H5
  clear hf hb5 B1 B4 B5 HW H5 HH HW6 H6 bA hB5
  go_wp2
  generalize hY : (World.setCell (World.setCell (World.setCell (World.setCell (World.setCell (World.setCell (World.setCell (World.setCell (World.setCell (World.setCell (World.setCell w5 _ _) _ _) _ _) _ _) _ _) _ _) _ _) _ _) _ _) _ _) _ _) = Y
  have hYS : StoresAt w.heap.size w5 Y := by
    rw [← hY]
    iterate 11 refine StoresAt.set ?_ _ _
    exact StoresAt.refl _ _
  have hYH : Has Y w.heap.size #[.slice (some ⟨w4.heap.size, 0, none⟩) 4 4, .slice (some ⟨w5.heap.size, 0, none⟩) 1 1, .int .i64 0, .slice none 0 0, .int .i64 1000, .int .i64 10, .int .i64 20, .int .i64 0, .int .i64 0, .int .i64 0, .int .i64 0] 26 := by
    have h := (((((((((((H5'.out.set 0 (.slice (some ⟨w4.heap.size, 0, none⟩) 4 4)).set 1 (.slice (some ⟨w5.heap.size, 0, none⟩) 1 1)).set 2 (.int .i64 0)).set 3 (.slice none 0 0)).set 4 (.int .i64 1000)).set 5 (.int .i64 10)).set 6 (.int .i64 20)).set 7 (.int .i64 0)).set 8 (.int .i64 0)).set 9 (.int .i64 0)).set 10 (.int .i64 0))
    simp only [List.setIfInBounds_toArray, List.set_cons_zero, List.set_cons_succ] at h
    rw [← hY]
    exact h
  clear hY c0 c1 c2 c3 c4 c5 c6 c7 c8 c9 c10 f0 f1 f2 f3 f4 f5 f6 f7 f8 f9 f10
  have hYA : Has (Y.alloc (.cells #[.int .i64 0, .int .i64 0] 38)) w.heap.size #[.slice (some ⟨w4.heap.size, 0, none⟩) 4 4, .slice (some ⟨w5.heap.size, 0, none⟩) 1 1, .int .i64 0, .slice none 0 0, .int .i64 1000, .int .i64 10, .int .i64 20, .int .i64 0, .int .i64 0, .int .i64 0, .int .i64 0] 26 := hYH.below ((Below.refl _ Y).alloc (Nat.le_refl _) _) hYH.lt
  have hQ : MsnQ exM w (.returned (.agg (msnCells exM (.slice (some ⟨w4.heap.size, 0, none⟩) 4 4) (.slice (some ⟨w5.heap.size, 0, none⟩) 1 1) (.slice none 0 0)))) (Y.alloc (.cells #[.int .i64 0, .int .i64 0] 38)) :=
    ⟨_, _, _, rfl, example_at hYS (by omega) HX.out.1, (HX.out.2.trans hYS.below).alloc (by rw [hYS.size]; omega) _⟩
  have hQ' := Lib.hid hQ
  clear hQ hYS hYH
  generalize Y.alloc (.cells #[.int .i64 0, .int .i64 0] 38) = Z at *
  obtain ⟨c0, c1, c2, c3, c4, c5, c6, c7, c8, c9, c10⟩ := msn_cells (m := exM) (vw := .slice (some ⟨w4.heap.size, 0, none⟩) 4 4) (vh := .slice (some ⟨w5.heap.size, 0, none⟩) 1 1) (vr := .slice none 0 0) hYA
  refine bodyPost_ret (v := .agg (msnCells exM (.slice (some ⟨w4.heap.size, 0, none⟩) 4 4) (.slice (some ⟨w5.heap.size, 0, none⟩) 1 1) (.slice none 0 0))) (by simp [results, Try.f32, go_sem, c0, c1, c2, c3, c4, c5, c6, c7, c8, c9, c10]; rfl) rfl hQ'.out
end Go.Proofs.Ytjnjmpakmgmdbaa

namespace Go.Proofs.Ytjnjmpakmgmdbaa
open Go.RowKit
attribute [local irreducible] wpQuiet

theorem ex_leg01 : legV exM 0 1 = .tuple #[.int .i64 500, .int .i64 50, .int .i64 15, .int .i64 0] := by
  have h : okL exM 0 1 = true := okL_mk (a := 0) (b := 1) exM_valid (by decide) (by decide)
  simp only [legV, legA, legT, legG, legE, h, if_true]
  have d := exM_dist.1
  show Value.tuple #[.int .i64 (dLeg exM 0 1), .int .i64 (lastsV exM.speed (dLeg exM 0 1)), .int .i64 (growthV exM.speed exM.part exM.flow (dLeg exM 0 1)), .int .i64 0] = _
  rw [d, exM_g.1, exM_g.2.1]
theorem ex_leg31 : legV exM 3 1 = .tuple #[.int .i64 0, .int .i64 0, .int .i64 0, .int .i64 0] := by
  have h : okL exM 3 1 = true := okL_mk (a := 3) (b := 1) exM_valid (by decide) (by decide)
  simp only [legV, legA, legT, legG, legE, h, if_true]
  have d := exM_dist.2.2.2.2.2
  show Value.tuple #[.int .i64 (dLeg exM 3 1), .int .i64 (lastsV exM.speed (dLeg exM 3 1)), .int .i64 (growthV exM.speed exM.part exM.flow (dLeg exM 3 1)), .int .i64 0] = _
  rw [d, exM_g.2.2]
  rfl
theorem no_leg : legV noM 0 0 = .tuple #[.int .i64 0, .int .i64 0, .int .i64 0, .int .i64 1] := by
  have h : okL noM 0 0 = false := by simp [okL, noM_valid]
  simp only [legV, legA, legT, legG, legE, h, Bool.false_eq_true, if_false]
theorem ex_route3 : routeR exM 3 = [3, 1, 0] ∧ routeE exM 3 = 0 := by
  have h : okR exM 3 = true := okR_mk (a := 3) exM_valid (by decide)
  simp only [routeR, routeE, h, if_true]
  exact ⟨by show intL (upto (itB exM 3) (dep exM 3 + 1)) = _; rw [exM_route]; rfl, trivial⟩
theorem ex_route4 : routeR exM 4 = [] ∧ routeE exM 4 = 1 := by
  have h : okR exM 4 = false := by simp [okR, ixB, exM]
  simp only [routeR, routeE, h, Bool.false_eq_true, if_false]
  exact ⟨trivial, trivial⟩
theorem noM_at (n : Nat) (W : World) : MsnAt n W noM (.slice none 0 0) (.slice none 0 0) (.slice none 0 0) :=
  ⟨⟨by simp [noM], none, 0, rfl, .inl rfl⟩, ⟨by simp [noM], none, 0, rfl, .inl rfl⟩, ⟨by simp [noM], none, 0, rfl, .inl rfl⟩⟩

/-- a list written out, in a new block -/
theorem ints_new (w : World) (l : List Int) (T : TypeId) (hl : l.length ≤ 1000) : IntsAt (w.alloc (.cells (l.map (Value.int .i64)).toArray T)).heap.size (w.alloc (.cells (l.map (Value.int .i64)).toArray T)) (.slice (some ⟨w.heap.size, 0, none⟩) l.length l.length) l := by
  refine ⟨by omega, some ⟨w.heap.size, 0, none⟩, 0, rfl, .inr ⟨w.heap.size, 0, rfl, by simp, fun j hj => ?_⟩⟩
  rw [Nat.zero_add]
  exact (Has.new w _ T).cell (by simp [List.getD, List.getElem?_eq_getElem hj])

set_option maxRecDepth 8000 in
set_option maxHeartbeats 2000000 in
theorem head31_any (w : World) : Calls Try.prog 15 #[] w fun e w' => e = .returned (.bool true) ∧ Below w.heap.size w w' := by
  go_enter Try.func15, Try.ntmps15
  go_wp2_with fail
  refine (example_any _).mono ?_
  rintro e w1 ⟨vw, vh, vr, rfl, hm, B1⟩
  have HM := Lib.hid hm
  obtain ⟨⟨_, aw, cw, rfl, _⟩, ⟨_, ah, ch, rfl, _⟩, ⟨_, ar, cr, rfl, _⟩⟩ := hm
  rw [show exM.ways.length = 4 from rfl, show exM.home.length = 1 from rfl, show exM.rocks.length = 0 from rfl, Nat.zero_add] at HM ⊢
  have hl1 := fun w1 h => leg_all exM (.slice aw 4 (4 + cw)) (.slice ah 1 (1 + ch)) (.slice ar 0 cr) 0 1 w1 h
  rw [ex_leg01] at hl1
  have hl2 := fun w1 h => leg_all exM (.slice aw 4 (4 + cw)) (.slice ah 1 (1 + ch)) (.slice ar 0 cr) 3 1 w1 h
  rw [ex_leg31] at hl2
  have hr1 := fun w1 h => route_all exM (.slice aw 4 (4 + cw)) (.slice ah 1 (1 + ch)) (.slice ar 0 cr) 3 w1 h
  rw [ex_route3.1, ex_route3.2] at hr1
  have hr2 := fun w1 h => route_all exM (.slice aw 4 (4 + cw)) (.slice ah 1 (1 + ch)) (.slice ar 0 cr) 4 w1 h
  rw [ex_route4.1, ex_route4.2] at hr2
  have hv1 := fun w1 h => valid_any exM (.slice aw 4 (4 + cw)) (.slice ah 1 (1 + ch)) (.slice ar 0 cr) w1 h
  rw [exM_valid] at hv1
  have hv2 := fun w1 => valid_any noM (.slice none 0 0) (.slice none 0 0) (.slice none 0 0) w1 (noM_at _ _)
  rw [noM_valid] at hv2
  have hl3 := fun w1 => leg_all noM (.slice none 0 0) (.slice none 0 0) (.slice none 0 0) 0 0 w1 (noM_at _ _)
  rw [no_leg] at hl3
  have HL := Lib.hid (And.intro hl1 (And.intro hl2 (And.intro hr1 (And.intro hr2 (And.intro hv1 (And.intro hv2 hl3))))))
  have H0 := Has.new w1 (msnCells exM (.slice aw 4 (4 + cw)) (.slice ah 1 (1 + ch)) (.slice ar 0 cr)) 26
  have H0' := Lib.hid H0
  clear hl1 hl2 hl3 hr1 hr2 hv1 hv2 H0
  unfold msnCells exM noM at *
  dsimp only at *
  go_wp2_with fail
  refine (HL.out.1 _ ((HM.out.below ((Below.refl _ _).alloc (Nat.le_refl _) _)).mono (by simp))).mono ?_
  rintro e w2 ⟨rfl, hb2⟩
  have B2 : Below w1.heap.size w1 w2 := ((Below.refl _ w1).alloc (Nat.le_refl _) _).trans (hb2.mono (by simp))
  have H2 := H0'.out.below (hb2.mono (by simp) : Below (w1.heap.size + 1) _ w2) (by omega)
  have z2 := H2.lt
  have H2' := Lib.hid H2
  obtain ⟨c0, c1, c2, c3, c4, c5, c6, c7, c8, c9, c10⟩ := msn_cells (m := exM) H2
  clear hb2 H2
  go_wp2_with fail
  refine (HL.out.2.2.1 _ ((HM.out.below B2).mono B2.size)).mono ?_
  rintro e w3 ⟨v3, rfl, hI3, hb3⟩
  have hI3' := Lib.hid hI3
  have B3 := B2.trans (hb3.mono B2.size)
  have H3 := H2'.out.below hb3 z2
  have z3 := H3.lt
  have H3' := Lib.hid H3
  obtain ⟨c0, c1, c2, c3, c4, c5, c6, c7, c8, c9, c10⟩ := msn_cells (m := exM) H3
  clear hb3 H3 hI3
  go_wp2_with fail
  refine (HL.out.2.1 _ ((HM.out.below B3).mono B3.size)).mono ?_
  rintro e w4 ⟨rfl, hb4⟩
  have B4 := B3.trans (hb4.mono B3.size)
  have H4 := H3'.out.below hb4 z3
  have z4 := H4.lt
  have H4' := Lib.hid H4
  have hI4' := Lib.hid (hI3'.out.below hb4)
  obtain ⟨c0, c1, c2, c3, c4, c5, c6, c7, c8, c9, c10⟩ := msn_cells (m := exM) H4
  have y4 := hb4.size
  clear hb4 H4
  go_wp2_with fail
  refine (HL.out.2.2.2.1 _ ((HM.out.below B4).mono B4.size)).mono ?_
  rintro e w5 ⟨v5, rfl, hI5, hb5⟩
  have B5 := B4.trans (hb5.mono B4.size)
  have H5 := H4'.out.below hb5 z4
  have z5 := H5.lt
  have H5' := Lib.hid H5
  have hI5' := Lib.hid (hI4'.out.below (hb5.mono y4))
  obtain ⟨c0, c1, c2, c3, c4, c5, c6, c7, c8, c9, c10⟩ := msn_cells (m := exM) H5
  have y5 := Nat.le_trans y4 hb5.size
  clear hb5 H5 hI5
  go_wp2_with fail
  refine (HL.out.2.2.2.2.2.2 _).mono ?_
  rintro e w6 ⟨rfl, hb6⟩
  have B6 := B5.trans (hb6.mono B5.size)
  have H6 := H5'.out.below hb6 z5
  have z6 := H6.lt
  have H6' := Lib.hid H6
  have hI6' := Lib.hid (hI5'.out.below (hb6.mono y5))
  obtain ⟨c0, c1, c2, c3, c4, c5, c6, c7, c8, c9, c10⟩ := msn_cells (m := exM) H6
  have y6 := Nat.le_trans y5 hb6.size
  clear hb6 H6
  go_wp2_with fail
  refine (HL.out.2.2.2.2.1 _ ((HM.out.below B6).mono B6.size)).mono ?_
  rintro e w7 ⟨rfl, hb7⟩
  have B7 := B6.trans (hb7.mono B6.size)
  have hI7' := Lib.hid (hI6'.out.below (hb7.mono y6))
  have y7 := Nat.le_trans y6 hb7.size
  clear hb7
  go_wp2_with fail
  refine (HL.out.2.2.2.2.2.1 _).mono ?_
  rintro e w8 ⟨rfl, hb8⟩
  have B8 := B7.trans (hb8.mono B7.size)
  have hI8' := Lib.hid (hI7'.out.below (hb8.mono y7))
  have y8 := Nat.le_trans y7 hb8.size
  clear hb8
  go_wp2_with fail
  have bA : Below w8.heap.size w8 (w8.alloc (.cells #[.int .i64 3, .int .i64 1, .int .i64 0] 3)) := (Below.refl _ _).alloc (Nat.le_refl _) _
  refine (same_any _ _ [3, 1, 0] [3, 1, 0] _ ((hI8'.out.below (bA.mono y8)).mono (Nat.le_trans y8 bA.size)) (ints_new w8 [3, 1, 0] 3 (by simp))).mono ?_
  rintro e w9 ⟨rfl, hb9⟩
  have d9 : decide (([3, 1, 0] : List Int) = [3, 1, 0]) = true := by decide
  have B9 := Lib.hid (B1.trans ((B8.trans ((bA.mono B8.size).trans (hb9.mono (Nat.le_trans B8.size bA.size)))).mono B1.size))
  clear hb9 bA
  go_wp2
  go_ret
  exact ⟨rfl, B9.out⟩
end Go.Proofs.Ytjnjmpakmgmdbaa
