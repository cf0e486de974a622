/- landfallref03's Bounds, Octagon, Fewer; landfallref04's polygon, both, Met; landfallref33's Touches, Index. -/
import Derived.Test.YtjjkmonfihomnaaRCross
import Derived.Test.YtjjkmonfihomnaaAppPts
import Derived.Test.YtjjkmonfihomnaaRCorn
namespace Go.Proofs.Ytjjkmonfihomnaa
open Go.RowKit
attribute [local irreducible] wpQuiet

def linP (a b : Int) (p : Pt) : Int := a * p.x + b * p.y
theorem loTo_bd {f : Pt → Int} {l : List Pt} {m : Int} (h : ∀ k, k < l.length → -m ≤ f (nth l k) ∧ f (nth l k) ≤ m) (h1 : 1 ≤ l.length) : ∀ k, k ≤ l.length → (-m ≤ loTo f l k ∧ loTo f l k ≤ m) ∧ (-m ≤ hiTo f l k ∧ hiTo f l k ≤ m)
  | 0, _ => ⟨h 0 (by omega), h 0 (by omega)⟩
  | k + 1, hk => by
    have ih := loTo_bd h h1 k (by omega)
    have := h k (by omega)
    simp only [loTo, hiTo]
    constructor <;> split <;> omega
theorem linP_bd {a b : Int} (ha : -1 ≤ a ∧ a ≤ 1) (hb : -1 ≤ b ∧ b ≤ 1) {p : Pt} (hp : placeP p = true) : -1000000 ≤ linP a b p ∧ linP a b p ≤ 1000000 := by
  have := place_iff.1 hp
  have x := prod_bd (a := a) (b := p.x) (m := 1) (n := 500000) (by omega) (by omega) (by omega) (by omega)
  have y := prod_bd (a := b) (b := p.y) (m := 1) (n := 500000) (by omega) (by omega) (by omega) (by omega)
  unfold linP; omega
theorem loTo_one (f : Pt → Int) (l : List Pt) : loTo f l 1 = f (nth l 0) := ite_self _
theorem hiTo_one (f : Pt → Int) (l : List Pt) : hiTo f l 1 = f (nth l 0) := ite_self _

set_option linter.unusedSimpArgs false in
set_option maxRecDepth 8000 in
set_option maxHeartbeats 2000000 in
theorem bounds_any (v : Value) (l : List Pt) (a b : Int) (w : World) (hp : PtsAt w.heap.size w v l) (h1 : 0 < l.length) (hl : ∀ k, k < l.length → placeP (nth l k) = true) (ha : -1 ≤ a ∧ a ≤ 1) (hb : -1 ≤ b ∧ b ≤ 1) :
    Calls Try.prog 148 #[v, .int .i64 a, .int .i64 b] w fun e w' => e = .returned (.tuple #[.int .i64 (loTo (linP a b) l l.length), .int .i64 (hiTo (linP a b) l l.length)]) ∧ Below w.heap.size w w' := by
  obtain ⟨hll, ad, cap, rfl, hc⟩ := hp
  obtain ⟨bk, o, rfl, hbk, hc⟩ := hc.resolve_left (by intro h; rw [h] at h1; simp at h1)
  have HC := Lib.hid hc
  have HB : Hid (∀ k, k < l.length → (∀ x y : Int, nth l k = ⟨x, y⟩ → IntKind.i64.wrap (a * x) = a * x ∧ IntKind.i64.wrap (b * y) = b * y ∧ IntKind.i64.wrap (a * x + b * y) = a * x + b * y)) := fun k hk x y e => by
    have := place_iff.1 (hl k hk)
    rw [e] at this
    simp only at this
    have p1 := prod_bd (a := a) (b := x) (m := 1) (n := 500000) (by omega) (by omega) (by omega) (by omega)
    have p2 := prod_bd (a := b) (b := y) (m := 1) (n := 500000) (by omega) (by omega) (by omega) (by omega)
    exact ⟨IntWalk.i64_in _ (by omega), IntWalk.i64_in _ (by omega), IntWalk.i64_in _ (by omega)⟩
  obtain ⟨q0, q1⟩ := hc 0 h1
  rw [Nat.zero_mul, Nat.add_zero] at q0 q1
  have ho1 := loTo_one (linP a b) l
  have ho2 := hiTo_one (linP a b) l
  obtain ⟨⟨x0, y0⟩, h0⟩ : ∃ p, nth l 0 = p := ⟨_, rfl⟩
  obtain ⟨w1, w2, w3⟩ := HB.out 0 h1 _ _ h0
  rw [h0] at q0 q1 ho1 ho2
  simp only at q0 q1
  have HO : Hid (loTo (linP a b) l 1 = a * x0 + b * y0 ∧ hiTo (linP a b) l 1 = a * x0 + b * y0) := ⟨ho1, ho2⟩
  have l0 := Low.fact q0
  have l1 := Low.fact q1
  have i0 : (0 : Int) < l.length := by omega
  have ne : ¬ l = [] := by intro h; rw [h] at h1; simp at h1
  clear hc hl ha hb ho1 ho2 h0 q0 q1
  go_enter Try.func148, Try.ntmps148
  go_wp2
  (refine wp_region_low (by kernel_rfl) (by kernel_rfl) ?_; (iterate 14 (apply quiet_want; (case hw => rfl); (case hval => (intro w1 hw1; have hcx := Low.cells hw1; simp only [Oper.quietAt]; go_simp; first | done | (first | fail) | rfl | exact ⟨rfl, rfl⟩)); simp only [Act.put, List.setIfInBounds_toArray, List.set_cons_zero, List.set_cons_succ])); refine wpQuiet_nil ?_; intro w2 hw2)
  have B0 := Lib.hid hw2.out
  clear hw2 l0 l1
  go_wp2
  go_loopw [8, 9, 10] (fun x y i wr => ∃ k : Nat, k < l.length ∧ i = .int .i64 ((k : Int) + 1) ∧ x = .int .i64 (loTo (linP a b) l (k + 1)) ∧ y = .int .i64 (hiTo (linP a b) l (k + 1)) ∧ Below w.heap.size w wr) (fun _ _ i _ => l.length + 1 - (intOf i).toNat)
  case atStart => exact ⟨0, h1, rfl, by rw [HO.out.1], by rw [HO.out.2], B0.out⟩
  case round =>
    obtain ⟨k, hk, rfl, hx, hy, hB⟩ := hrel
    have hzB := hB.size
    by_cases hlt : k + 1 < l.length
    · subst hx
      subst hy
      obtain ⟨q0, q1⟩ := HC.out (k + 1) hlt
      have e0 := (hB.cell (p := ⟨bk, o + (k + 1) * 2, none⟩) hbk).trans q0
      have e1 := (hB.cell (p := ⟨bk, o + (k + 1) * 2 + 1, none⟩) hbk).trans q1
      have hs : Hid (loTo (linP a b) l (k + 1 + 1) = (if linP a b (nth l (k + 1)) < loTo (linP a b) l (k + 1) then linP a b (nth l (k + 1)) else loTo (linP a b) l (k + 1)) ∧ hiTo (linP a b) l (k + 1 + 1) = (if hiTo (linP a b) l (k + 1) < linP a b (nth l (k + 1)) then linP a b (nth l (k + 1)) else hiTo (linP a b) l (k + 1))) := ⟨rfl, rfl⟩
      obtain ⟨⟨x, y⟩, h0⟩ : ∃ p, nth l (k + 1) = p := ⟨_, rfl⟩
      obtain ⟨m1, m2, m3⟩ := HB.out (k + 1) hlt _ _ h0
      rw [h0] at e0 e1 hs
      simp only at e0 e1
      have hlin : Hid (linP a b ⟨x, y⟩ = a * x + b * y) := rfl
      rw [hlin.out] at hs
      have dk : decide ((k : Int) + 1 < (l.length : Int)) = true := by simp; omega
      have kl : (k : Int) + 1 < l.length := by omega
      have k0 : (0 : Int) ≤ (k : Int) + 1 := by omega
      have kn : ((k : Int) + 1).toNat = k + 1 := by omega
      generalize loTo (linP a b) l (k + 1) = lo at *
      generalize hiTo (linP a b) l (k + 1) = hi at *
      have l0 := Low.fact e0
      have l1 := Low.fact e1
      have HBB := Lib.hid hB
      clear q0 q1 hB h0 hlin
      rcases Int.lt_or_le (a * x + b * y) lo with h1 | h1
      · rcases Int.lt_or_le hi (a * x + b * y) with h2 | h2
        · rw [if_pos h1, if_pos h2] at hs
          have e8 : (if a * x + b * y < lo then a * x + b * y else lo) = a * x + b * y := if_pos h1
          have e9 : (if hi < a * x + b * y then a * x + b * y else hi) = a * x + b * y := if_pos h2
          go_wp2
          (refine wp_region_low (by kernel_rfl) (by kernel_rfl) ?_; (iterate 18 (apply quiet_want; (case hw => rfl); (case hval => (intro w1 hw1; have hcx := Low.cells hw1; simp only [Oper.quietAt]; go_simp; first | done | (first | fail) | rfl | exact ⟨rfl, rfl⟩)); simp only [Act.put, List.setIfInBounds_toArray, List.set_cons_zero, List.set_cons_succ])); refine wpQuiet_nil ?_; intro w2 hw2)
          have c0 := hw2.cell e0
          have c1 := hw2.cell e1
          have l0 := Low.fact c0
          have l1 := Low.fact c1
          have HB2 := Lib.hid (HBB.out.trans (hw2.out.mono hzB))
          clear hw2 HBB e0 e1 hzB
          generalize w2 = X2 at *
          go_wp2
          (refine wp_region_low (by kernel_rfl) (by kernel_rfl) ?_; (iterate 18 (apply quiet_want; (case hw => rfl); (case hval => (intro w1 hw1; have hcx := Low.cells hw1; simp only [Oper.quietAt]; go_simp; first | done | (first | fail) | rfl | exact ⟨rfl, rfl⟩)); simp only [Act.put, List.setIfInBounds_toArray, List.set_cons_zero, List.set_cons_succ])); refine wpQuiet_nil ?_; intro w2 hw2)
          have HB3 := Lib.hid (HB2.out.trans (hw2.out.mono HB2.out.size))
          clear hw2 l0 l1
          go_wp2
          go_roundw
          case rel => exact ⟨k + 1, hlt, by go_num, by rw [hs.out.1], by rw [hs.out.2], HB3.out⟩
          case measure => simp [intOf]; omega
        · rw [if_pos h1, if_neg (by omega)] at hs
          have e8 : (if a * x + b * y < lo then a * x + b * y else lo) = a * x + b * y := if_pos h1
          have e9 : (if hi < a * x + b * y then a * x + b * y else hi) = hi := if_neg (by omega)
          go_wp2
          (refine wp_region_low (by kernel_rfl) (by kernel_rfl) ?_; (iterate 18 (apply quiet_want; (case hw => rfl); (case hval => (intro w1 hw1; have hcx := Low.cells hw1; simp only [Oper.quietAt]; go_simp; first | done | (first | fail) | rfl | exact ⟨rfl, rfl⟩)); simp only [Act.put, List.setIfInBounds_toArray, List.set_cons_zero, List.set_cons_succ])); refine wpQuiet_nil ?_; intro w2 hw2)
          have c0 := hw2.cell e0
          have c1 := hw2.cell e1
          have l0 := Low.fact c0
          have l1 := Low.fact c1
          have HB2 := Lib.hid (HBB.out.trans (hw2.out.mono hzB))
          clear hw2 HBB e0 e1 hzB
          generalize w2 = X2 at *
          go_wp2
          (refine wp_region_low (by kernel_rfl) (by kernel_rfl) ?_; (iterate 18 (apply quiet_want; (case hw => rfl); (case hval => (intro w1 hw1; have hcx := Low.cells hw1; simp only [Oper.quietAt]; go_simp; first | done | (first | fail) | rfl | exact ⟨rfl, rfl⟩)); simp only [Act.put, List.setIfInBounds_toArray, List.set_cons_zero, List.set_cons_succ])); refine wpQuiet_nil ?_; intro w2 hw2)
          have HB3 := Lib.hid (HB2.out.trans (hw2.out.mono HB2.out.size))
          clear hw2 l0 l1
          go_wp2
          go_roundw
          case rel => exact ⟨k + 1, hlt, by go_num, by rw [hs.out.1], by rw [hs.out.2], HB3.out⟩
          case measure => simp [intOf]; omega
      · rcases Int.lt_or_le hi (a * x + b * y) with h2 | h2
        · rw [if_neg (by omega), if_pos h2] at hs
          have e8 : (if a * x + b * y < lo then a * x + b * y else lo) = lo := if_neg (by omega)
          have e9 : (if hi < a * x + b * y then a * x + b * y else hi) = a * x + b * y := if_pos h2
          go_wp2
          (refine wp_region_low (by kernel_rfl) (by kernel_rfl) ?_; (iterate 18 (apply quiet_want; (case hw => rfl); (case hval => (intro w1 hw1; have hcx := Low.cells hw1; simp only [Oper.quietAt]; go_simp; first | done | (first | fail) | rfl | exact ⟨rfl, rfl⟩)); simp only [Act.put, List.setIfInBounds_toArray, List.set_cons_zero, List.set_cons_succ])); refine wpQuiet_nil ?_; intro w2 hw2)
          have c0 := hw2.cell e0
          have c1 := hw2.cell e1
          have l0 := Low.fact c0
          have l1 := Low.fact c1
          have HB2 := Lib.hid (HBB.out.trans (hw2.out.mono hzB))
          clear hw2 HBB e0 e1 hzB
          generalize w2 = X2 at *
          go_wp2
          (refine wp_region_low (by kernel_rfl) (by kernel_rfl) ?_; (iterate 18 (apply quiet_want; (case hw => rfl); (case hval => (intro w1 hw1; have hcx := Low.cells hw1; simp only [Oper.quietAt]; go_simp; first | done | (first | fail) | rfl | exact ⟨rfl, rfl⟩)); simp only [Act.put, List.setIfInBounds_toArray, List.set_cons_zero, List.set_cons_succ])); refine wpQuiet_nil ?_; intro w2 hw2)
          have HB3 := Lib.hid (HB2.out.trans (hw2.out.mono HB2.out.size))
          clear hw2 l0 l1
          go_wp2
          go_roundw
          case rel => exact ⟨k + 1, hlt, by go_num, by rw [hs.out.1], by rw [hs.out.2], HB3.out⟩
          case measure => simp [intOf]; omega
        · rw [if_neg (by omega), if_neg (by omega)] at hs
          have e8 : (if a * x + b * y < lo then a * x + b * y else lo) = lo := if_neg (by omega)
          have e9 : (if hi < a * x + b * y then a * x + b * y else hi) = hi := if_neg (by omega)
          go_wp2
          (refine wp_region_low (by kernel_rfl) (by kernel_rfl) ?_; (iterate 18 (apply quiet_want; (case hw => rfl); (case hval => (intro w1 hw1; have hcx := Low.cells hw1; simp only [Oper.quietAt]; go_simp; first | done | (first | fail) | rfl | exact ⟨rfl, rfl⟩)); simp only [Act.put, List.setIfInBounds_toArray, List.set_cons_zero, List.set_cons_succ])); refine wpQuiet_nil ?_; intro w2 hw2)
          have c0 := hw2.cell e0
          have c1 := hw2.cell e1
          have l0 := Low.fact c0
          have l1 := Low.fact c1
          have HB2 := Lib.hid (HBB.out.trans (hw2.out.mono hzB))
          clear hw2 HBB e0 e1 hzB
          generalize w2 = X2 at *
          go_wp2
          (refine wp_region_low (by kernel_rfl) (by kernel_rfl) ?_; (iterate 18 (apply quiet_want; (case hw => rfl); (case hval => (intro w1 hw1; have hcx := Low.cells hw1; simp only [Oper.quietAt]; go_simp; first | done | (first | fail) | rfl | exact ⟨rfl, rfl⟩)); simp only [Act.put, List.setIfInBounds_toArray, List.set_cons_zero, List.set_cons_succ])); refine wpQuiet_nil ?_; intro w2 hw2)
          have HB3 := Lib.hid (HB2.out.trans (hw2.out.mono HB2.out.size))
          clear hw2 l0 l1
          go_wp2
          go_roundw
          case rel => exact ⟨k + 1, hlt, by go_num, by rw [hs.out.1], by rw [hs.out.2], HB3.out⟩
          case measure => simp [intOf]; omega
    · have hk1 : k + 1 = l.length := by omega
      rw [hk1] at hx hy
      subst hx
      subst hy
      have dk : decide ((k : Int) + 1 < (l.length : Int)) = false := by simp; omega
      have HBB := Lib.hid hB
      clear hB hk1
      go_wp2
      go_ret2
      exact ⟨rfl, HBB.out⟩

/-- the eight corners -/
def octP (l : List Pt) : List Pt :=
  let a := loTo (linP 1 0) l l.length; let b := hiTo (linP 1 0) l l.length; let c := loTo (linP 0 1) l l.length; let d := hiTo (linP 0 1) l l.length
  let s := loTo (linP 1 1) l l.length; let t := hiTo (linP 1 1) l l.length; let u := loTo (linP 1 (-1)) l l.length; let v := hiTo (linP 1 (-1)) l l.length
  [⟨b, b - v⟩, ⟨b, t - b⟩, ⟨t - d, d⟩, ⟨d + u, d⟩, ⟨a, a - u⟩, ⟨a, s - a⟩, ⟨s - c, c⟩, ⟨c + v, c⟩]
set_option linter.unusedSimpArgs false in
set_option maxRecDepth 8000 in
set_option maxHeartbeats 2000000 in
theorem octagon_any (vl : Value) (l : List Pt) (w : World) (hp : PtsAt w.heap.size w vl l) (h1 : 0 < l.length) (hl : ∀ k, k < l.length → placeP (nth l k) = true) :
    Calls Try.prog 140 #[vl] w (PtsQ (hullP (octP l)) w) := by
  have f1 := Lib.hid (fun w1 (B : Below w.heap.size w w1) => bounds_any vl l 1 0 w1 ((hp.below B).mono B.size) h1 hl (by omega) (by omega))
  have f2 := Lib.hid (fun w1 (B : Below w.heap.size w w1) => bounds_any vl l 0 1 w1 ((hp.below B).mono B.size) h1 hl (by omega) (by omega))
  have f3 := Lib.hid (fun w1 (B : Below w.heap.size w w1) => bounds_any vl l 1 1 w1 ((hp.below B).mono B.size) h1 hl (by omega) (by omega))
  have f4 := Lib.hid (fun w1 (B : Below w.heap.size w w1) => bounds_any vl l 1 (-1) w1 ((hp.below B).mono B.size) h1 hl (by omega) (by omega))
  have bd : ∀ a b : Int, -1 ≤ a ∧ a ≤ 1 → -1 ≤ b ∧ b ≤ 1 → _ := fun a b ha hb => loTo_bd (f := linP a b) (l := l) (m := 1000000) (fun k hk => linP_bd ha hb (hl k hk)) (by omega) l.length (Nat.le_refl _)
  have x1 := bd 1 0 (by omega) (by omega)
  have x2 := bd 0 1 (by omega) (by omega)
  have x3 := bd 1 1 (by omega) (by omega)
  have x4 := bd 1 (-1) (by omega) (by omega)
  have ho : octP l = [⟨hiTo (linP 1 0) l l.length, hiTo (linP 1 0) l l.length - hiTo (linP 1 (-1)) l l.length⟩, ⟨hiTo (linP 1 0) l l.length, hiTo (linP 1 1) l l.length - hiTo (linP 1 0) l l.length⟩, ⟨hiTo (linP 1 1) l l.length - hiTo (linP 0 1) l l.length, hiTo (linP 0 1) l l.length⟩, ⟨hiTo (linP 0 1) l l.length + loTo (linP 1 (-1)) l l.length, hiTo (linP 0 1) l l.length⟩, ⟨loTo (linP 1 0) l l.length, loTo (linP 1 0) l l.length - loTo (linP 1 (-1)) l l.length⟩, ⟨loTo (linP 1 0) l l.length, loTo (linP 1 1) l l.length - loTo (linP 1 0) l l.length⟩, ⟨loTo (linP 1 1) l l.length - loTo (linP 0 1) l l.length, loTo (linP 0 1) l l.length⟩, ⟨loTo (linP 0 1) l l.length + hiTo (linP 1 (-1)) l l.length, loTo (linP 0 1) l l.length⟩] := rfl
  obtain ⟨ad, cap, rfl⟩ := hp.len
  clear bd hp hl
  rw [ho]
  clear ho
  generalize loTo (linP 1 0) l l.length = a at *
  generalize hiTo (linP 1 0) l l.length = b at *
  generalize loTo (linP 0 1) l l.length = c at *
  generalize hiTo (linP 0 1) l l.length = d at *
  generalize loTo (linP 1 1) l l.length = s at *
  generalize hiTo (linP 1 1) l l.length = t at *
  generalize loTo (linP 1 (-1)) l l.length = u at *
  generalize hiTo (linP 1 (-1)) l l.length = v at *
  have k1 : IntKind.i64.wrap (b - v) = b - v := IntWalk.i64_in _ (by omega)
  have k2 : IntKind.i64.wrap (t - b) = t - b := IntWalk.i64_in _ (by omega)
  have k3 : IntKind.i64.wrap (t - d) = t - d := IntWalk.i64_in _ (by omega)
  have k4 : IntKind.i64.wrap (d + u) = d + u := IntWalk.i64_in _ (by omega)
  have k5 : IntKind.i64.wrap (a - u) = a - u := IntWalk.i64_in _ (by omega)
  have k6 : IntKind.i64.wrap (s - a) = s - a := IntWalk.i64_in _ (by omega)
  have k7 : IntKind.i64.wrap (s - c) = s - c := IntWalk.i64_in _ (by omega)
  have k8 : IntKind.i64.wrap (c + v) = c + v := IntWalk.i64_in _ (by omega)
  have far : ∀ k, k < 8 → far6 (nth [⟨b, b - v⟩, ⟨b, t - b⟩, ⟨t - d, d⟩, ⟨d + u, d⟩, ⟨a, a - u⟩, ⟨a, s - a⟩, ⟨s - c, c⟩, ⟨c + v, c⟩] k) := fun k hk => by
    rcases (show k = 0 ∨ k = 1 ∨ k = 2 ∨ k = 3 ∨ k = 4 ∨ k = 5 ∨ k = 6 ∨ k = 7 by omega) with rfl | rfl | rfl | rfl | rfl | rfl | rfl | rfl
    all_goals (simp only [nth, List.getD_cons_zero, List.getD_cons_succ, far6]; omega)
  have FAR := Lib.hid far
  clear x1 x2 x3 x4 far
  go_enter Try.func140, Try.ntmps140
  go_wp2_with fail
  refine (f1.out w (Below.refl _ _)).mono ?_
  rintro e w1 ⟨rfl, b1⟩
  have B1 := Lib.hid b1
  clear b1
  go_wp2_with fail
  refine (f2.out _ B1.out).mono ?_
  rintro e w2 ⟨rfl, b2⟩
  have B2 := Lib.hid (B1.out.trans (b2.mono B1.out.size))
  clear b2
  go_wp2_with fail
  refine (f3.out _ B2.out).mono ?_
  rintro e w3 ⟨rfl, b3⟩
  have B3 := Lib.hid (B2.out.trans (b3.mono B2.out.size))
  clear b3
  go_wp2_with fail
  refine (f4.out _ B3.out).mono ?_
  rintro e w4 ⟨rfl, b4⟩
  have B4 := Lib.hid (B3.out.trans (b4.mono B3.out.size))
  clear b4
  go_wp2_with fail
  have hN := Has.new w4 (ptCells [⟨b, b - v⟩, ⟨b, t - b⟩, ⟨t - d, d⟩, ⟨d + u, d⟩, ⟨a, a - u⟩, ⟨a, s - a⟩, ⟨s - c, c⟩, ⟨c + v, c⟩]).toArray 31
  have hPP := pts_lit hN (by simp)
  have hA := B4.out.alloc B4.out.size (.cells (ptCells [⟨b, b - v⟩, ⟨b, t - b⟩, ⟨t - d, d⟩, ⟨d + u, d⟩, ⟨a, a - u⟩, ⟨a, s - a⟩, ⟨s - c, c⟩, ⟨c + v, c⟩]).toArray 31)
  refine (around_any _ _ _ hPP FAR.out (by simp)).mono ?_
  rintro e w5 ⟨v5, rfl, h5, b5⟩
  have HZ := Lib.hid (And.intro h5 (hA.trans (b5.mono hA.size)))
  clear hN hPP hA h5 b5
  go_wp2
  go_ret
  exact ⟨_, rfl, HZ.out.1, HZ.out.2⟩
/-- with few corners -/
noncomputable def fewerP (l : List Pt) : List Pt := if 64 < l.length then hullP (octP l) else l
theorem fewer_any (vl : Value) (l : List Pt) (w : World) (hp : PtsAt w.heap.size w vl l) (hl : ∀ k, k < l.length → placeP (nth l k) = true) :
    Calls Try.prog 127 #[vl] w (PtsQ (fewerP l) w) := by
  have f := Lib.hid (fun h1 => octagon_any vl l w hp h1 hl)
  have hp' := Lib.hid hp
  obtain ⟨ad, cap, rfl⟩ := hp.len
  clear hp hl
  unfold fewerP
  by_cases h : 64 < l.length
  · have d1 : decide ((l.length : Int) > 64) = true := by simp; omega
    rw [if_pos h]
    have F := Lib.hid (f.out (by omega))
    clear f
    go_enter Try.func127, Try.ntmps127
    go_wp2_with fail
    refine F.out.mono ?_
    rintro e w5 ⟨v5, rfl, h5, b5⟩
    have HZ := Lib.hid (And.intro h5 b5)
    clear h5 b5
    go_wp2
    go_ret
    exact ⟨_, rfl, HZ.out.1, HZ.out.2⟩
  · have d1 : decide ((l.length : Int) > 64) = false := by simp; omega
    rw [if_neg h]
    clear f
    go_enter Try.func127, Try.ntmps127
    go_wp2
    go_ret
    exact ⟨_, rfl, hp'.out, Below.refl _ _⟩
/-- the polygon of corners and frames, and whether there are some -/
noncomputable def polyP (l : List Pt) : List Pt := if l.length = 0 then [] else fewerP (hullP l)
theorem polygon_any (vl : Value) (l : List Pt) (w : World) (hp : PtsAt w.heap.size w vl l) (hs : l.length ≤ 1000000) (hl : ∀ k, k < l.length → placeP (nth l k) = true) :
    Calls Try.prog 110 #[vl] w fun e w' => ∃ v, e = .returned (.tuple #[v, .bool (!decide (l.length = 0))]) ∧ PtsAt w'.heap.size w' v (polyP l) ∧ Below w.heap.size w w' := by
  have f := Lib.hid (around_any vl l w hp (fun k hk => far6_place (hl k hk)) hs)
  have g := Lib.hid (fun u w1 (hu : PtsAt w1.heap.size w1 u (hullP l)) => fewer_any u (hullP l) w1 hu fun k hk => by
    obtain ⟨j, hj, e⟩ := mem_nth' (hullP_mem (nth_mem' hk))
    rw [← e]; exact hl j hj)
  obtain ⟨ad, cap, rfl⟩ := hp.len
  clear hp hl
  unfold polyP
  by_cases h : l.length = 0
  · have d1 : ((l.length : Int) == 0) = true := by rw [beq_iff_eq]; omega
    rw [if_pos h, decide_eq_true h]
    clear f g
    go_enter Try.func110, Try.ntmps110
    go_wp2
    go_ret2
    exact ⟨_, rfl, PtsAt.nil _ _, Below.refl _ _⟩
  · have d1 : ((l.length : Int) == 0) = false := by rw [beq_eq_false_iff_ne]; omega
    rw [if_neg h, decide_eq_false h]
    go_enter Try.func110, Try.ntmps110
    go_wp2_with fail
    refine f.out.mono ?_
    rintro e w5 ⟨v5, rfl, h5, b5⟩
    have F := Lib.hid (g.out _ _ h5)
    have B5 := Lib.hid b5
    clear h5 b5 g
    go_wp2_with fail
    refine F.out.mono ?_
    rintro e w6 ⟨v6, rfl, h6, b6⟩
    have HZ := Lib.hid (And.intro h6 (B5.out.trans (b6.mono B5.out.size)))
    clear h6 b6
    go_wp2
    go_ret2
    exact ⟨_, rfl, HZ.out.1, HZ.out.2⟩
/-- what the reference lists -/
noncomputable def bothR (l m : List Pt) : List Pt := cornersP l m ++ cornersP m l ++ crossPR l m
theorem mem_bothR {l m : List Pt} {x : Pt} : x ∈ bothR l m ↔ x ∈ sharedP l m := by
  unfold bothR sharedP
  simp only [List.mem_append, mem_crossPR]
theorem bothR_nil {l m : List Pt} : (bothR l m).length = 0 ↔ (sharedP l m).length = 0 := by
  rw [List.length_eq_zero_iff, List.length_eq_zero_iff, List.eq_nil_iff_forall_not_mem, List.eq_nil_iff_forall_not_mem]
  exact ⟨fun h x hx => h x (mem_bothR.2 hx), fun h x hx => h x (mem_bothR.1 hx)⟩
theorem crossPR_len {l m : List Pt} (hl : l.length ≤ 64) (hm : m.length ≤ 64) : (crossPR l m).length ≤ 16384 := by
  have := outTo_len l m l.length
  have h4 : 4 * m.length * l.length ≤ 4 * 64 * 64 := Nat.mul_le_mul (Nat.mul_le_mul (Nat.le_refl 4) hm) hl
  unfold crossPR
  omega
set_option linter.unusedSimpArgs false in
set_option maxRecDepth 8000 in
set_option maxHeartbeats 2000000 in
theorem both_any (vp vq : Value) (l m : List Pt) (w : World) (hp : PtsAt w.heap.size w vp l) (hq : PtsAt w.heap.size w vq m) (hl : goValid l = true) (hm : goValid m = true) :
    Calls Try.prog 111 #[vp, vq] w (PtsQ (bothR l m) w) := by
  have GL := goValid_true hl
  have GM := goValid_true hm
  have l64 := GL.2.1
  have m64 := GM.2.1
  have f1 := Lib.hid (rcorners_any vp vq l m w hp hq (by omega) (fun k hk => (GL.2.2.1 k hk).1) hm)
  have f2 := Lib.hid (fun w1 (B : Below w.heap.size w w1) => rcorners_any vq vp m l w1 ((hq.below B).mono B.size) ((hp.below B).mono B.size) (by omega) (fun k hk => (GM.2.2.1 k hk).1) hl)
  have f3 := Lib.hid (fun w1 (B : Below w.heap.size w w1) => rcrossings_any vp vq l m w1 ((hp.below B).mono B.size) ((hq.below B).mono B.size) hl hm)
  have c1 := cornersP_len l m
  have c2 := cornersP_len m l
  have c3 := crossPR_len l64 m64
  obtain ⟨ap, capp, rfl⟩ := hp.len
  obtain ⟨aq, capq, rfl⟩ := hq.len
  unfold bothR
  generalize cornersP l m = L1 at *
  generalize cornersP m l = L2 at *
  generalize crossPR l m = L3 at *
  clear hp hq hl hm GL GM
  go_enter Try.func111, Try.ntmps111
  go_wp2_with fail
  refine f1.out.mono ?_
  rintro e w1 ⟨v1, rfl, h1, b1⟩
  have H1 := Lib.hid h1
  have B1 := Lib.hid b1
  clear h1 b1
  go_wp2_with (first | (at_builtin; refine wpList_append_pts rfl _ _ rfl w.heap.size _ 0 [] rfl (World.ownsRow_nil _ _ _ _) _ L1 rfl H1.out (by omega) B1.out.size ?_; intro x1 w2 r2 g2 _; have R2 := Lib.hid r2; have B2 := Lib.hid (B1.out.trans (app_below (World.ownsRow_nil w1 w.heap.size 31 2) g2 (Nat.le_refl _) B1.out.size)); clear r2 g2) | fail)
  refine (f2.out _ B2.out).mono ?_
  rintro e w3 ⟨v3, rfl, h3, b3⟩
  have H3 := Lib.hid h3
  have B3 := Lib.hid (B2.out.trans (b3.mono B2.out.size))
  have R3 := Lib.hid (prow_below R2.out b3)
  clear h3 b3 R2
  go_wp2_with (first | (at_builtin; refine wpList_append_pts rfl _ _ rfl w.heap.size _ _ _ rfl R3.out _ L2 rfl H3.out (by omega) B3.out.size ?_; intro x2 w4 r4 g4 _; have R4 := Lib.hid r4; have B4 := Lib.hid (B3.out.trans (app_below R3.out g4 (Nat.le_refl _) B3.out.size)); clear r4 g4) | fail)
  refine (f3.out _ B4.out).mono ?_
  rintro e w5 ⟨v5, rfl, h5, b5⟩
  have H5 := Lib.hid h5
  have B5 := Lib.hid (B4.out.trans (b5.mono B4.out.size))
  have R5 := Lib.hid (prow_below R4.out b5)
  clear h5 b5 R4
  go_wp2_with (first | (at_builtin; refine wpList_append_pts rfl _ _ rfl w.heap.size _ _ _ rfl R5.out _ L3 rfl H5.out (by omega) B5.out.size ?_; intro x3 w6 r6 g6 _; have R6 := Lib.hid r6; have B6 := Lib.hid (B5.out.trans (app_below R5.out g6 (Nat.le_refl _) B5.out.size)); clear r6 g6) | fail)
  go_ret
  refine ⟨_, rfl, PtsAt.own (base := w.heap.size) (l := L1 ++ L2 ++ L3) (n := 0 + L1.length + L2.length + L3.length) ?_ (by simp only [List.length_append]; omega), B6.out⟩
  have := R6.out
  rw [List.nil_append] at this
  rw [ptCells_append, ptCells_append]
  exact this
theorem shared_place {l m : List Pt} (hl : goValid l = true) (hm : goValid m = true) {x : Pt} (hx : x ∈ sharedP l m) : placeP x = true := by
  unfold sharedP at hx
  simp only [List.mem_append] at hx
  have GL := goValid_true hl
  have GM := goValid_true hm
  rcases hx with (hx | hx) | hx
  · obtain ⟨j, hj, e, _⟩ := (mem_cornersTo _).1 hx
    rw [← e]; exact (GL.2.2.1 j hj).1
  · obtain ⟨j, hj, e, _⟩ := (mem_cornersTo _).1 hx
    rw [← e]; exact (GM.2.2.1 j hj).1
  · exact crossP_place (fun k hk => (GM.2.2.1 k hk).1) hx
set_option maxHeartbeats 800000 in
theorem met_any (vp vq : Value) (l m : List Pt) (w : World) (hp : PtsAt w.heap.size w vp l) (hq : PtsAt w.heap.size w vq m) (hl : goValid l = true) (hm : goValid m = true) :
    Calls Try.prog 70 #[vp, vq] w fun e w' => ∃ v, e = .returned (.tuple #[v, .bool (touchB l m)]) ∧ PtsAt w'.heap.size w' v (polyP (bothR l m)) ∧ Below w.heap.size w w' := by
  have f1 := Lib.hid (both_any vp vq l m w hp hq hl hm)
  have l64 := (goValid_true hl).2.1
  have m64 := (goValid_true hm).2.1
  have c1 := cornersP_len l m
  have c2 := cornersP_len m l
  have c3 := crossPR_len l64 m64
  have ht : (!decide ((bothR l m).length = 0)) = touchB l m := by
    unfold touchB
    rw [hl, hm]
    simp only [Bool.and_true, Bool.true_and]
    congr 1
    rw [decide_eq_decide]
    exact bothR_nil
  have f2 := Lib.hid (fun u w1 (hu : PtsAt w1.heap.size w1 u (bothR l m)) => polygon_any u (bothR l m) w1 hu (by unfold bothR; simp only [List.length_append]; omega) fun k hk => shared_place hl hm (mem_bothR.1 (nth_mem' hk)))
  rw [ht] at f2
  obtain ⟨ap, capp, rfl⟩ := hp.len
  obtain ⟨aq, capq, rfl⟩ := hq.len
  clear hp hq hl hm ht
  go_enter Try.func70, Try.ntmps70
  go_wp2_with fail
  refine f1.out.mono ?_
  rintro e w1 ⟨v1, rfl, h1, b1⟩
  have F := Lib.hid (f2.out _ _ h1)
  have B1 := Lib.hid b1
  clear h1 b1 f2
  go_wp2_with fail
  refine F.out.mono ?_
  rintro e w2 ⟨v2, rfl, h2, b2⟩
  have HZ := Lib.hid (And.intro h2 (B1.out.trans (b2.mono B1.out.size)))
  clear h2 b2
  go_wp2
  go_ret2
  exact ⟨_, rfl, HZ.out.1, HZ.out.2⟩
theorem touches_any (vp vq : Value) (l m : List Pt) (w : World) (hp : PtsAt w.heap.size w vp l) (hq : PtsAt w.heap.size w vq m) (hl : goValid l = true) (hm : goValid m = true) :
    Calls Try.prog 39 #[vp, vq] w fun e w' => e = .returned (.bool (touchB l m)) ∧ Below w.heap.size w w' := by
  have f1 := Lib.hid (met_any vp vq l m w hp hq hl hm)
  obtain ⟨ap, capp, rfl⟩ := hp.len
  obtain ⟨aq, capq, rfl⟩ := hq.len
  clear hp hq hl hm
  go_enter Try.func39, Try.ntmps39
  go_wp2_with fail
  refine f1.out.mono ?_
  rintro e w1 ⟨v1, rfl, h1, b1⟩
  have B1 := Lib.hid b1
  clear h1 b1
  go_wp2
  exact bodyPost_ret (results_tmp rfl _ _ _) rfl ⟨rfl, B1.out⟩
/-- the index of the first rock; -1: none -/
def idxO (o : Option Nat) : Int := match o with | some k => k | none => -1
set_option linter.unusedSimpArgs false in
set_option maxHeartbeats 1600000 in
theorem index_any (vc vr : Value) (c : List Pt) (ls : List (List Pt)) (w : World) (hc : PtsAt w.heap.size w vc c) (hr : RocksAt w.heap.size w vr ls) (hgc : goValid c = true) (hgl : ∀ j, j < ls.length → goValid (rk ls j) = true) :
    Calls Try.prog 37 #[vc, vr] w fun e w' => e = .returned (.int .i64 (idxO (hitTo c ls ls.length))) ∧ Below w.heap.size w w' := by
  obtain ⟨hll, ar, capr, rfl, hrc⟩ := hr
  have HRC := Lib.hid hrc
  have HC := Lib.hid hc
  have HG := Lib.hid (And.intro hgc hgl)
  obtain ⟨ac, capc, rfl⟩ := hc.len
  clear hrc hc hgc hgl
  go_enter Try.func37, Try.ntmps37
  go_wp2
  go_loopw [5] (fun i wr => ∃ k : Nat, k ≤ ls.length ∧ i = .int .i64 (k : Int) ∧ hitTo c ls k = none ∧ Below w.heap.size w wr) (fun i _ => ls.length - (intOf i).toNat)
  case atStart => exact ⟨0, by omega, rfl, rfl, Below.refl _ _⟩
  case round =>
    obtain ⟨k, hk, rfl, hno, hB⟩ := hrel
    by_cases hlt : k < ls.length
    · have dk : decide ((k : Int) < (ls.length : Int)) = true := by simp; omega
      obtain ⟨b, o, rfl, hb, hcc⟩ := HRC.out.resolve_left (by intro h; rw [h] at hlt; simp at hlt)
      obtain ⟨u, hu, hpu⟩ := hcc k hlt
      have e0 := (hB.cell (p := ⟨b, o + k, none⟩) hb).trans hu
      have hv := touches_any _ u c (rk ls k) wr ((HC.out.below hB).mono hB.size) ((hpu.below hB).mono hB.size) HG.out.1 (HG.out.2 k hlt)
      have kl : (k : Int) < ls.length := by omega
      have k0 : (0 : Int) ≤ k := by omega
      have hzr := hB.size
      have HB := Lib.hid hB
      have hst : hitTo c ls (k + 1) = if touchB c (rk ls k) = true then some k else none := by simp [hitTo, hno]
      have HNO := Lib.hid hno
      clear hcc hu hpu hB hno
      cases hg : touchB c (rk ls k)
      · rw [hg] at hv hst
        have hv' := Lib.hid hv
        have hst' := Lib.hid hst
        clear hg hv hst
        go_wp2_with fail
        refine hv'.out.mono ?_
        rintro e w3 ⟨rfl, hb3⟩
        have B3 := Lib.hid (HB.out.trans (hb3.mono hzr))
        clear hb3
        go_wp2
        go_roundw
        case rel => exact ⟨k + 1, by omega, by go_num, hst'.out, B3.out⟩
        case measure => simp [intOf]; omega
      · rw [hg] at hv
        have hv' := Lib.hid hv
        have hres : hitTo c ls ls.length = some k := by
          cases h : hitTo c ls ls.length with
          | none =>
            have := hitTo_none h k hlt
            rw [hg] at this; cases this
          | some q =>
            obtain ⟨q1, q2, q3⟩ := hitTo_some h
            have n := hitTo_none HNO.out
            rcases Nat.lt_trichotomy q k with e | e | e
            · rw [n q e] at q2; cases q2
            · rw [e]
            · have := q3 k e
              rw [hg] at this; cases this
        have HR := Lib.hid hres
        clear hg hv hst hres
        go_wp2_with fail
        refine hv'.out.mono ?_
        rintro e w3 ⟨rfl, hb3⟩
        have B3 := Lib.hid (HB.out.trans (hb3.mono hzr))
        clear hb3
        go_wp2
        exact bodyPost_ret (results_tmp rfl _ _ _) rfl ⟨by rw [HR.out]; rfl, B3.out⟩
    · obtain rfl : k = ls.length := by omega
      have dk : decide ((ls.length : Int) < (ls.length : Int)) = false := by simp
      have HR := Lib.hid hno
      have HB := Lib.hid hB
      clear hno hB
      go_wp2
      exact bodyPost_ret (results_tmp rfl _ _ _) rfl ⟨by rw [HR.out]; rfl, HB.out⟩
end Go.Proofs.Ytjjkmonfihomnaa
