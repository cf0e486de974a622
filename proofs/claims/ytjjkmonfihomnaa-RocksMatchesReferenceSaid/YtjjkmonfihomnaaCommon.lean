/- package cut: Common. -/
import Derived.Test.YtjjkmonfihomnaaApart
namespace Go.Proofs.Ytjjkmonfihomnaa
open Go.RowKit
attribute [local irreducible] wpQuiet

theorem ccompare_any (ax ay bx by' : Int) (w : World) :
    Calls Try.prog 64 #[.agg #[.int .i64 ax, .int .i64 ay], .agg #[.int .i64 bx, .int .i64 by']] w fun e w' => e = .returned (.int .i64 (cmpV ax ay bx by')) ∧ Below w.heap.size w w' := by
  go_enter Try.func64, Try.ntmps64
  go_wp2
  go_region_held3 (fun w' => w'.cell? ⟨w.heap.size, 0, none⟩ = some (.int .i64 ax) ∧ w'.cell? ⟨w.heap.size, 1, none⟩ = some (.int .i64 ay) ∧ w'.cell? ⟨w.heap.size + 1, 0, none⟩ = some (.int .i64 bx) ∧ w'.cell? ⟨w.heap.size + 1, 1, none⟩ = some (.int .i64 by'))
    (go_keep)
    (first | (go_at_call 66; refine (compareI_any _ _ _).mono ?_; rintro e w' ⟨rfl, rfl⟩) | (go_at_call 65; refine Calls.mono (or_any (w.heap.size + 1 + 1) (cmpI ax bx) (cmpI ay by') _ ?c0 ?c1) ?_; (case c0 => simp [go_sem]); (case c1 => simp [go_sem]); rintro e w' ⟨rfl, rfl⟩))
  all_goals go_wp2
  go_ret
  exact ⟨rfl, by repeat (first | exact Below.refl _ _ | assumption | apply Below.drew | refine Below.setCell ?_ (by first | omega | (simp; done) | (simp; omega)) _ | refine Below.alloc ?_ (by first | omega | (simp; done) | (simp; omega)) _ | refine Below.call (by assumption) ?_ (by first | omega | (simp; done) | (simp; omega)))⟩

/-- the least of the first k + 1 points -/
def minTo (l : List Pt) : Nat → Pt
  | 0 => nth l 0
  | k + 1 => if cmpP (nth l (k + 1)) (minTo l k) < 0 then nth l (k + 1) else minTo l k

set_option linter.unusedSimpArgs false in
set_option maxRecDepth 4000 in
set_option maxHeartbeats 1600000 in
theorem minFunc_any (v : Value) (l : List Pt) (w : World) (hp : PtsAt w.heap.size w v l) (h1 : 0 < l.length) :
    Calls Try.prog 69 #[v, .func (.func 64) #[] #[]] w fun e w' => e = .returned (.agg #[.int .i64 (minTo l (l.length - 1)).x, .int .i64 (minTo l (l.length - 1)).y]) ∧ Below w.heap.size w w' := by
  obtain ⟨hll, a, cap, rfl, hc⟩ := hp
  obtain ⟨b, o, rfl, hb, hc⟩ : ∃ b o, a = some ⟨b, o, none⟩ ∧ b < w.heap.size ∧ ∀ j, j < l.length → w.cell? ⟨b, o + j * 2, none⟩ = some (.int .i64 (nth l j).x) ∧ w.cell? ⟨b, o + j * 2 + 1, none⟩ = some (.int .i64 (nth l j).y) := by
    rcases hc with h | h
    · rw [h] at h1; simp at h1
    · exact h
  obtain ⟨q0, q1⟩ := hc 0 h1
  rw [Nat.zero_mul, Nat.add_zero] at q0 q1
  have hA := (Below.refl w.heap.size w).alloc (Nat.le_refl _) (.cells #[.int .i64 0, .int .i64 0] 31)
  have e0 := (hA.cell (p := ⟨b, o, none⟩) hb).trans q0
  have e1 := (hA.cell (p := ⟨b, o + 1, none⟩) hb).trans q1
  have HC := Lib.hid hc
  have hm0 : Hid (minTo l 0 = ⟨(nth l 0).x, (nth l 0).y⟩) := rfl
  have d1 : decide ((l.length : Int) < 1) = false := by simp; omega
  have i0 : (0 : Int) < l.length := by omega
  have h4 := (Has.new w #[.int .i64 0, .int .i64 0] 31).below ((Below.refl (w.heap.size + 1) _).alloc (by simp) (.cells #[.int .i64 (nth l 0).x, .int .i64 (nth l 0).y] 31)) (by omega)
  have h5 := Has.new (w.alloc (.cells #[.int .i64 0, .int .i64 0] 31)) #[.int .i64 (nth l 0).x, .int .i64 (nth l 0).y] 31
  rw [World.size_alloc] at h5
  have hB := hA.alloc hA.size (.cells #[.int .i64 (nth l 0).x, .int .i64 (nth l 0).y] 31)
  have HS := Lib.hid (And.intro h4 (And.intro h5 hB))
  clear hc q0 q1 h4 h5 hB hA
  go_enter Try.func69, Try.ntmps69
  go_wp2
  go_loopw [6] (fun i wr => ∃ k : Nat, k < l.length ∧ i = .int .i64 ((k : Int) + 1) ∧ Has wr w.heap.size #[.int .i64 0, .int .i64 0] 31 ∧ Has wr (w.heap.size + 1) #[.int .i64 (minTo l k).x, .int .i64 (minTo l k).y] 31 ∧ Below w.heap.size w wr) (fun i _ => l.length + 1 - (intOf i).toNat)
  case atStart => exact ⟨0, h1, rfl, HS.out.1, HS.out.2.1, HS.out.2.2⟩
  case round =>
    obtain ⟨k, hk, rfl, g4, g5, hB⟩ := hrel
    have hzB := hB.size
    have l5 := g5.lt
    by_cases hlt : k + 1 < l.length
    · obtain ⟨q0, q1⟩ := HC.out (k + 1) hlt
      have f0 := (hB.cell (p := ⟨b, o + (k + 1) * 2, none⟩) hb).trans q0
      have f1 := (hB.cell (p := ⟨b, o + (k + 1) * 2 + 1, none⟩) hb).trans q1
      have hst : Hid (minTo l (k + 1) = if cmpV (nth l (k + 1)).x (nth l (k + 1)).y (minTo l k).x (minTo l k).y < 0 then ⟨(nth l (k + 1)).x, (nth l (k + 1)).y⟩ else ⟨(minTo l k).x, (minTo l k).y⟩) := rfl
      have hcm := Lib.hid (fun w1 => ccompare_any (nth l (k + 1)).x (nth l (k + 1)).y (minTo l k).x (minTo l k).y w1)
      have dk : decide ((k : Int) + 1 < (l.length : Int)) = true := by simp; omega
      have kl : (k : Int) + 1 < l.length := by omega
      have k0 : (0 : Int) ≤ (k : Int) + 1 := by omega
      have kn : ((k : Int) + 1).toNat = k + 1 := by omega
      have HG := Lib.hid (And.intro g4 (And.intro g5 hB))
      generalize (nth l (k + 1)).x = px at *
      generalize (nth l (k + 1)).y = py at *
      generalize (minTo l k).x = mx at *
      generalize (minTo l k).y = my at *
      have m0 := Low.fact (g5.cell (i := 0) rfl : wr.cell? ⟨w.heap.size + 1, 0, none⟩ = some (.int .i64 mx))
      have m1 := Low.fact (g5.cell (i := 1) rfl : wr.cell? ⟨w.heap.size + 1, 1, none⟩ = some (.int .i64 my))
      have p0 := Low.fact f0
      have p1 := Low.fact f1
      clear q0 q1 g4 g5 hB
      by_cases hcmp : cmpV px py mx my < 0
      · have dc : decide (cmpV px py mx my < 0) = true := by simpa using hcmp
        rw [if_pos hcmp] at hst
        clear hcmp
        go_wp2
        (refine wp_region_low (by kernel_rfl) (by kernel_rfl) ?_; (iterate 8 (apply quiet_want; (case hw => rfl); (case hval => (intro w1 hw1; have hcx := Low.cells hw1; simp only [Oper.quietAt]; go_simp; first | done | (first | (go_at_call 64; exact Low.calls hw1 (hcm.out _))) | rfl | exact ⟨rfl, rfl⟩)); simp only [Act.put, List.setIfInBounds_toArray, List.set_cons_zero, List.set_cons_succ])); refine wpQuiet_nil ?_; intro w2 hw2)
        obtain ⟨g4, g5, hB⟩ := HG.out
        have G4 := g4.below hw2.out (by omega)
        have G5 := g5.below hw2.out (by omega)
        have B2 := hB.trans (hw2.out.mono (by omega))
        have x0 : w2.cell? ⟨w.heap.size + 1, 0, none⟩ = some (.int .i64 mx) := G5.cell (i := 0) rfl
        have x1 : w2.cell? ⟨w.heap.size + 1, 1, none⟩ = some (.int .i64 my) := G5.cell (i := 1) rfl
        have y0 := cells_free G5 0
        have y1 := cells_free G5 1
        have r0 := (hw2.out.cell (p := ⟨b, o + (k + 1) * 2, none⟩) (by show b < wr.heap.size; omega)).trans f0
        have r1 := (hw2.out.cell (p := ⟨b, o + (k + 1) * 2 + 1, none⟩) (by show b < wr.heap.size; omega)).trans f1
        have HZ := Lib.hid (And.intro (((G4.other ⟨w.heap.size + 1, 0, none⟩ (.int .i64 px) (by simp)).other ⟨w.heap.size + 1, 1, none⟩ (.int .i64 py) (by simp))) (And.intro ((G5.set 0 (.int .i64 px)).set 1 (.int .i64 py)) ((B2.setCell (p := ⟨w.heap.size + 1, 0, none⟩) (by simp) (.int .i64 px)).setCell (p := ⟨w.heap.size + 1, 1, none⟩) (by simp) (.int .i64 py))))
        clear G4 G5 B2 g4 g5 hB hw2 m0 m1 p0 p1 f0 f1
        go_wp2
        go_roundw
        case rel => exact ⟨k + 1, hlt, by go_num, HZ.out.1, by rw [hst.out]; exact HZ.out.2.1, HZ.out.2.2⟩
        case measure => simp [intOf]; omega
      · have dc : decide (cmpV px py mx my < 0) = false := by simpa using hcmp
        rw [if_neg hcmp] at hst
        clear hcmp
        go_wp2
        (refine wp_region_low (by kernel_rfl) (by kernel_rfl) ?_; (iterate 8 (apply quiet_want; (case hw => rfl); (case hval => (intro w1 hw1; have hcx := Low.cells hw1; simp only [Oper.quietAt]; go_simp; first | done | (first | (go_at_call 64; exact Low.calls hw1 (hcm.out _))) | rfl | exact ⟨rfl, rfl⟩)); simp only [Act.put, List.setIfInBounds_toArray, List.set_cons_zero, List.set_cons_succ])); refine wpQuiet_nil ?_; intro w2 hw2)
        obtain ⟨g4, g5, hB⟩ := HG.out
        have HZ := Lib.hid (And.intro (g4.below hw2.out (by omega)) (And.intro (g5.below hw2.out (by omega)) (hB.trans (hw2.out.mono (by omega)))))
        clear g4 g5 hB hw2 m0 m1 p0 p1 f0 f1
        go_wp2
        go_roundw
        case rel => exact ⟨k + 1, hlt, by go_num, HZ.out.1, by rw [hst.out]; exact HZ.out.2.1, HZ.out.2.2⟩
        case measure => simp [intOf]; omega
    · obtain rfl : k = l.length - 1 := by omega
      have dk : decide (((l.length - 1 : Nat) : Int) + 1 < (l.length : Int)) = false := by simp; omega
      obtain ⟨mx, hmx⟩ : ∃ mx, (minTo l (l.length - 1)).x = mx := ⟨_, rfl⟩
      obtain ⟨my, hmy⟩ : ∃ my, (minTo l (l.length - 1)).y = my := ⟨_, rfl⟩
      rw [hmx, hmy] at g5
      have HM := Lib.hid (And.intro hmx hmy)
      clear hmx hmy
      have m0 : wr.cell? ⟨w.heap.size + 1, 0, none⟩ = some (.int .i64 mx) := g5.cell (i := 0) rfl
      have m1 : wr.cell? ⟨w.heap.size + 1, 1, none⟩ = some (.int .i64 my) := g5.cell (i := 1) rfl
      have x0 : wr.cell? ⟨w.heap.size, 0, none⟩ = some (.int .i64 0) := g4.cell (i := 0) rfl
      have x1 : wr.cell? ⟨w.heap.size, 1, none⟩ = some (.int .i64 0) := g4.cell (i := 1) rfl
      have y0 := cells_free g4 0
      have y1 := cells_free g4 1
      have HZ := (g4.set 0 (.int .i64 mx)).set 1 (.int .i64 my)
      have z0 : ((wr.setCell ⟨w.heap.size, 0, none⟩ (.int .i64 mx)).setCell ⟨w.heap.size, 1, none⟩ (.int .i64 my)).cell? ⟨w.heap.size, 0, none⟩ = some (.int .i64 mx) := HZ.cell (i := 0) rfl
      have z1 : ((wr.setCell ⟨w.heap.size, 0, none⟩ (.int .i64 mx)).setCell ⟨w.heap.size, 1, none⟩ (.int .i64 my)).cell? ⟨w.heap.size, 1, none⟩ = some (.int .i64 my) := HZ.cell (i := 1) rfl
      have BB := Lib.hid ((hB.setCell (p := ⟨w.heap.size, 0, none⟩) (by simp) (.int .i64 mx)).setCell (p := ⟨w.heap.size, 1, none⟩) (by simp) (.int .i64 my))
      clear HZ g4 g5 hB
      go_wp2
      exact bodyPost_ret (v := .agg #[.int .i64 mx, .int .i64 my]) (by simp [results, Try.f69, go_sem, z0, z1]) rfl ⟨by rw [HM.out.1, HM.out.2], BB.out⟩

/-- the three lists in which Common looks -/
noncomputable def comL (l m : List Pt) (i : Nat) : List Pt := if i = 0 then cornersP l m else if i = 1 then cornersP m l else cornersP (cornersP (crossP l m) l) m
noncomputable def comX (l m : List Pt) : Option Pt := if (comL l m 0).length ≠ 0 then some (minTo (comL l m 0) ((comL l m 0).length - 1)) else if (comL l m 1).length ≠ 0 then some (minTo (comL l m 1) ((comL l m 1).length - 1)) else if (comL l m 2).length ≠ 0 then some (minTo (comL l m 2) ((comL l m 2).length - 1)) else none
def optX (o : Option Pt) : Int := match o with | some p => p.x | none => 0
def optY (o : Option Pt) : Int := match o with | some p => p.y | none => 0

set_option linter.unusedSimpArgs false in
set_option maxRecDepth 4000 in
set_option maxHeartbeats 800000 in
theorem common_no (vp vq : Value) (l m : List Pt) (w : World) (hp : PtsAt w.heap.size w vp l) (hq : PtsAt w.heap.size w vq m) (hE : (goValid l && goValid m) = false) :
    Calls Try.prog 38 #[vp, vq] w fun e w' => e = .returned (.tuple #[.agg #[.int .i64 0, .int .i64 0], .bool false, .int .i64 1]) ∧ Below w.heap.size w w' := by
  have f1 := Lib.hid (fun w1 (B : Below w.heap.size w w1) => hullValid_any vp l w1 ((hp.below B).mono B.size))
  have f2 := Lib.hid (fun w1 (B : Below w.heap.size w w1) => hullValid_any vq m w1 ((hq.below B).mono B.size))
  obtain ⟨ap, capp, rfl⟩ := hp.len
  obtain ⟨aq, capq, rfl⟩ := hq.len
  have hA := (Below.refl w.heap.size w).alloc (Nat.le_refl _) (.cells #[.int .i64 0, .int .i64 0] 31)
  have hN := Lib.hid (Has.new w #[.int .i64 0, .int .i64 0] 31)
  have HA := Lib.hid hA
  have hs1 : w.heap.size < (w.alloc (.cells #[.int .i64 0, .int .i64 0] 31)).heap.size := by simp
  clear hp hq hA
  cases hl : goValid l
  · rw [hl] at f1
    clear hl hE
    go_enter Try.func38, Try.ntmps38
    go_wp2_with fail
    refine (f1.out _ HA.out).mono ?_
    rintro e w1 ⟨rfl, hb1⟩
    have g1 := hN.out.below hb1 hs1
    have B1 := Lib.hid (HA.out.trans (hb1.mono HA.out.size))
    have x0 : w1.cell? ⟨w.heap.size, 0, none⟩ = some (.int .i64 0) := g1.cell (i := 0) rfl
    have x1 : w1.cell? ⟨w.heap.size, 1, none⟩ = some (.int .i64 0) := g1.cell (i := 1) rfl
    have y0 := cells_free g1 0
    have y1 := cells_free g1 1
    have HZ := (g1.set 0 (.int .i64 0)).set 1 (.int .i64 0)
    have z0 : ((w1.setCell ⟨w.heap.size, 0, none⟩ (.int .i64 0)).setCell ⟨w.heap.size, 1, none⟩ (.int .i64 0)).cell? ⟨w.heap.size, 0, none⟩ = some (.int .i64 0) := HZ.cell (i := 0) rfl
    have z1 : ((w1.setCell ⟨w.heap.size, 0, none⟩ (.int .i64 0)).setCell ⟨w.heap.size, 1, none⟩ (.int .i64 0)).cell? ⟨w.heap.size, 1, none⟩ = some (.int .i64 0) := HZ.cell (i := 1) rfl
    have BB := Lib.hid ((B1.out.setCell (p := ⟨w.heap.size, 0, none⟩) (by simp) (.int .i64 0)).setCell (p := ⟨w.heap.size, 1, none⟩) (by simp) (.int .i64 0))
    clear hb1 HZ g1
    go_wp2
    exact bodyPost_ret (v := .tuple #[.agg #[.int .i64 0, .int .i64 0], .bool false, .int .i64 1]) (by simp [results, Try.f38, go_sem, z0, z1]) rfl ⟨rfl, BB.out⟩
  · rw [hl] at f1
    have hm : goValid m = false := by rw [hl] at hE; simpa using hE
    rw [hm] at f2
    clear hl hE hm
    go_enter Try.func38, Try.ntmps38
    go_wp2_with fail
    refine (f1.out _ HA.out).mono ?_
    rintro e w0 ⟨rfl, hb0⟩
    have g0 := Lib.hid (hN.out.below hb0 hs1)
    have B0 := Lib.hid (HA.out.trans (hb0.mono HA.out.size))
    have hs0 := g0.out.lt
    clear hb0
    go_wp2_with fail
    refine (f2.out _ B0.out).mono ?_
    rintro e w1 ⟨rfl, hb1⟩
    have g1 := g0.out.below hb1 hs0
    have B1 := Lib.hid (B0.out.trans (hb1.mono B0.out.size))
    have x0 : w1.cell? ⟨w.heap.size, 0, none⟩ = some (.int .i64 0) := g1.cell (i := 0) rfl
    have x1 : w1.cell? ⟨w.heap.size, 1, none⟩ = some (.int .i64 0) := g1.cell (i := 1) rfl
    have y0 := cells_free g1 0
    have y1 := cells_free g1 1
    have HZ := (g1.set 0 (.int .i64 0)).set 1 (.int .i64 0)
    have z0 : ((w1.setCell ⟨w.heap.size, 0, none⟩ (.int .i64 0)).setCell ⟨w.heap.size, 1, none⟩ (.int .i64 0)).cell? ⟨w.heap.size, 0, none⟩ = some (.int .i64 0) := HZ.cell (i := 0) rfl
    have z1 : ((w1.setCell ⟨w.heap.size, 0, none⟩ (.int .i64 0)).setCell ⟨w.heap.size, 1, none⟩ (.int .i64 0)).cell? ⟨w.heap.size, 1, none⟩ = some (.int .i64 0) := HZ.cell (i := 1) rfl
    have BB := Lib.hid ((B1.out.setCell (p := ⟨w.heap.size, 0, none⟩) (by simp) (.int .i64 0)).setCell (p := ⟨w.heap.size, 1, none⟩) (by simp) (.int .i64 0))
    clear hb1 HZ g1
    go_wp2
    exact bodyPost_ret (v := .tuple #[.agg #[.int .i64 0, .int .i64 0], .bool false, .int .i64 1]) (by simp [results, Try.f38, go_sem, z0, z1]) rfl ⟨rfl, BB.out⟩

theorem comL_rk (l m : List Pt) : ∀ k, k < 3 → rk [comL l m 0, comL l m 1, comL l m 2] k = comL l m k
  | 0, _ => rfl
  | 1, _ => rfl
  | 2, _ => rfl
theorem comX_at {l m : List Pt} {k : Nat} (hk : k < 3) (h0 : ∀ j, j < k → (comL l m j).length = 0) (h1 : 0 < (comL l m k).length) : comX l m = some (minTo (comL l m k) ((comL l m k).length - 1)) := by
  unfold comX
  match k, hk with
  | 0, _ => rw [if_pos (by omega)]
  | 1, _ =>
    have a := h0 0 (by omega)
    rw [if_neg (by omega), if_pos (by omega)]
  | 2, _ =>
    have a := h0 0 (by omega)
    have b := h0 1 (by omega)
    rw [if_neg (by omega), if_neg (by omega), if_pos (by omega)]
theorem comX_none {l m : List Pt} (h0 : ∀ j, j < 3 → (comL l m j).length = 0) : comX l m = none := by
  have a := h0 0 (by omega)
  have b := h0 1 (by omega)
  have c := h0 2 (by omega)
  unfold comX
  rw [if_neg (by omega), if_neg (by omega), if_neg (by omega)]

set_option linter.unusedSimpArgs false in
set_option maxRecDepth 4000 in
set_option maxHeartbeats 3000000 in
theorem common_yes (vp vq : Value) (l m : List Pt) (w : World) (hp : PtsAt w.heap.size w vp l) (hq : PtsAt w.heap.size w vq m) (hl : goValid l = true) (hm : goValid m = true) :
    Calls Try.prog 38 #[vp, vq] w fun e w' => e = .returned (.tuple #[.agg #[.int .i64 (optX (comX l m)), .int .i64 (optY (comX l m))], .bool (comX l m).isSome, .int .i64 0]) ∧ Below w.heap.size w w' := by
  have GL : GoValid l := by simpa [goValid] using hl
  have GM : GoValid m := by simpa [goValid] using hm
  have l64 := GL.2.1
  have m64 := GM.2.1
  have clen := crossP_len l64 m64
  have f1 := Lib.hid (fun w1 (B : Below w.heap.size w w1) => hl ▸ hullValid_any vp l w1 ((hp.below B).mono B.size))
  have f2 := Lib.hid (fun w1 (B : Below w.heap.size w w1) => hm ▸ hullValid_any vq m w1 ((hq.below B).mono B.size))
  have f3 := Lib.hid (fun w1 (B : Below w.heap.size w w1) => corners_any vp vq l m w1 ((hp.below B).mono B.size) ((hq.below B).mono B.size) (by omega))
  have f4 := Lib.hid (fun w1 (B : Below w.heap.size w w1) => corners_any vq vp m l w1 ((hq.below B).mono B.size) ((hp.below B).mono B.size) (by omega))
  have f5 := Lib.hid (fun w1 (B : Below w.heap.size w w1) => crossings_any vp vq l m w1 ((hp.below B).mono B.size) ((hq.below B).mono B.size) hl hm)
  have f6 := Lib.hid (fun u w1 (B : Below w.heap.size w w1) (h : PtsAt w1.heap.size w1 u (crossP l m)) => corners_any u vp (crossP l m) l w1 h ((hp.below B).mono B.size) (by omega))
  have f7 := Lib.hid (fun u w1 (B : Below w.heap.size w w1) (h : PtsAt w1.heap.size w1 u (cornersP (crossP l m) l)) => corners_any u vq (cornersP (crossP l m) l) m w1 h ((hq.below B).mono B.size) (by have := cornersP_len (crossP l m) l; omega))
  obtain ⟨ap, capp, rfl⟩ := hp.len
  obtain ⟨aq, capq, rfl⟩ := hq.len
  have hA := (Below.refl w.heap.size w).alloc (Nat.le_refl _) (.cells #[.int .i64 0, .int .i64 0] 31)
  have hN := Lib.hid (Has.new w #[.int .i64 0, .int .i64 0] 31)
  have HA := Lib.hid hA
  have hs1 : w.heap.size < (w.alloc (.cells #[.int .i64 0, .int .i64 0] 31)).heap.size := by simp
  clear hp hq hA hl hm GL GM
  go_enter Try.func38, Try.ntmps38
  go_wp2_with fail
  refine (f1.out _ HA.out).mono ?_
  rintro e w0 ⟨rfl, hb0⟩
  have g0 := Lib.hid (hN.out.below hb0 hs1)
  have B0 := Lib.hid (HA.out.trans (hb0.mono HA.out.size))
  have hs0 := g0.out.lt
  clear hb0
  go_wp2_with fail
  refine (f2.out _ B0.out).mono ?_
  rintro e w1 ⟨rfl, hb1⟩
  have g1 := Lib.hid (g0.out.below hb1 hs0)
  have B1 := Lib.hid (B0.out.trans (hb1.mono B0.out.size))
  have hs1 := g1.out.lt
  clear hb1
  go_wp2_with fail
  refine (f3.out _ B1.out).mono ?_
  rintro e w2 ⟨u0, rfl, I0, hb2⟩
  have g2 := Lib.hid (g1.out.below hb2 hs1)
  have B2 := Lib.hid (B1.out.trans (hb2.mono B1.out.size))
  have hs2 := g2.out.lt
  have J0 := Lib.hid I0
  obtain ⟨a0, c0, rfl⟩ := I0.len
  clear hb2 I0
  go_wp2_with fail
  refine (f4.out _ B2.out).mono ?_
  rintro e w3 ⟨u1, rfl, I1, hb3⟩
  have g3 := Lib.hid (g2.out.below hb3 hs2)
  have B3 := Lib.hid (B2.out.trans (hb3.mono B2.out.size))
  have hs3 := g3.out.lt
  have K0 := Lib.hid ((J0.out.below hb3).mono hb3.size)
  have K1 := Lib.hid I1
  obtain ⟨a1, c1, rfl⟩ := I1.len
  clear hb3 I1
  go_wp2_with fail
  refine (f5.out _ B3.out).mono ?_
  rintro e w4 ⟨u2, rfl, I2, hb4⟩
  have g4 := Lib.hid (g3.out.below hb4 hs3)
  have B4 := Lib.hid (B3.out.trans (hb4.mono B3.out.size))
  have hs4 := g4.out.lt
  have L0 := Lib.hid ((K0.out.below hb4).mono hb4.size)
  have L1 := Lib.hid ((K1.out.below hb4).mono hb4.size)
  have L2 := Lib.hid I2
  obtain ⟨a2, c2, rfl⟩ := I2.len
  clear hb4 I2
  go_wp2_with fail
  refine (f6.out _ _ B4.out L2.out).mono ?_
  rintro e w5 ⟨u3, rfl, I3, hb5⟩
  have g5 := Lib.hid (g4.out.below hb5 hs4)
  have B5 := Lib.hid (B4.out.trans (hb5.mono B4.out.size))
  have hs5 := g5.out.lt
  have M0 := Lib.hid ((L0.out.below hb5).mono hb5.size)
  have M1 := Lib.hid ((L1.out.below hb5).mono hb5.size)
  have M3 := Lib.hid I3
  obtain ⟨a3, c3, rfl⟩ := I3.len
  clear hb5 I3
  go_wp2_with fail
  refine (f7.out _ _ B5.out M3.out).mono ?_
  rintro e w6 ⟨u4, rfl, I4, hb6⟩
  have g6 := g5.out.below hb6 hs5
  have B6 := B5.out.trans (hb6.mono B5.out.size)
  have hs6 := g6.lt
  have N0 := (M0.out.below hb6).mono hb6.size
  have N1 := (M1.out.below hb6).mono hb6.size
  obtain ⟨a4, c4, rfl⟩ := I4.len
  have R := rocks_three N0 N1 I4
  have hBR := (Below.refl w6.heap.size w6).alloc (Nat.le_refl _) (.cells #[.slice a0 (cornersP l m).length ((cornersP l m).length + c0), .slice a1 (cornersP m l).length ((cornersP m l).length + c1), .slice a4 (cornersP (cornersP (crossP l m) l) m).length ((cornersP (cornersP (crossP l m) l) m).length + c4)] 22)
  have g7 := Lib.hid (g6.below hBR hs6)
  have B7 := Lib.hid (B6.trans (hBR.mono B6.size))
  have hs7 : w6.heap.size + 1 = (w6.alloc (.cells #[.slice a0 (cornersP l m).length ((cornersP l m).length + c0), .slice a1 (cornersP m l).length ((cornersP m l).length + c1), .slice a4 (cornersP (cornersP (crossP l m) l) m).length ((cornersP (cornersP (crossP l m) l) m).length + c4)] 22)).heap.size := by simp
  change RocksAt _ _ _ [comL l m 0, comL l m 1, comL l m 2] at R
  clear hb6 I4 g6 B6 N0 N1 hBR f1 f2 f3 f4 f5 f6 f7
  obtain ⟨W7, hW7⟩ : ∃ W7, w6.alloc (.cells #[.slice a0 (cornersP l m).length ((cornersP l m).length + c0), .slice a1 (cornersP m l).length ((cornersP m l).length + c1), .slice a4 (cornersP (cornersP (crossP l m) l) m).length ((cornersP (cornersP (crossP l m) l) m).length + c4)] 22) = W7 := ⟨_, rfl⟩
  rw [hW7] at R g7 B7 hs7
  have HW7 := Lib.hid hW7
  have HR := Lib.hid R
  have hs8 := g7.out.lt
  clear R hW7
  go_wp2
  rw [HW7.out]
  go_loopw [34] (fun i wr => ∃ k : Nat, k ≤ 3 ∧ i = .int .i64 (k : Int) ∧ (∀ j, j < k → (comL l m j).length = 0) ∧ Below W7.heap.size W7 wr) (fun i _ => 3 - (intOf i).toNat)
  case atStart => exact ⟨0, by omega, rfl, fun j h => by omega, Below.refl _ _⟩
  case round =>
    obtain ⟨k, hk, rfl, hall, hB⟩ := hrel
    have G := g7.out.below hB hs8
    have BB := B7.out.trans (hB.mono B7.out.size)
    have hzr := hB.size
    have HALL := Lib.hid hall
    clear hall
    by_cases hlt : k < 3
    · obtain ⟨u, hu, hpu⟩ : ∃ u, wr.cell? ⟨w6.heap.size, k, none⟩ = some u ∧ PtsAt wr.heap.size wr u (comL l m k) := by
        obtain ⟨_, a, cap, e, h | ⟨b, o, e2, hb, hcc⟩⟩ := HR.out
        · simp at h
        · simp only [Value.slice.injEq] at e
          obtain ⟨e3, _⟩ := e
          rw [← e3] at e2
          simp only [Option.some.injEq, Addr.mk.injEq, and_true] at e2
          obtain ⟨rfl, rfl⟩ := e2
          obtain ⟨u, hu, hpu⟩ := hcc k (by simpa using hlt)
          rw [comL_rk _ _ k hlt] at hpu
          rw [hs7] at hpu
          rw [Nat.zero_add] at hu
          exact ⟨u, (hB.cell (p := ⟨w6.heap.size, k, none⟩) (by show w6.heap.size < _; omega)).trans hu, (hpu.below hB).mono hB.size⟩
      obtain ⟨au, cu, rfl⟩ := hpu.len
      have dk : decide ((k : Int) < 3) = true := by simp; omega
      have kl : (k : Int) < 3 := by omega
      have k0 : (0 : Int) ≤ k := by omega
      have HB := Lib.hid hB
      have HBB := Lib.hid BB
      have HG := Lib.hid G
      have HP := Lib.hid hpu
      clear hB BB G hpu
      by_cases hpos : 0 < (comL l m k).length
      · have d1 : decide (((comL l m k).length : Int) > 0) = true := by rw [decide_eq_true_eq]; omega
        have hres := Lib.hid (comX_at hlt HALL.out hpos)
        have hmf := Lib.hid (minFunc_any _ _ _ HP.out hpos)
        generalize minTo (comL l m k) ((comL l m k).length - 1) = mn at *
        obtain ⟨mx, my⟩ := mn
        dsimp only at hmf
        go_wp2_with fail
        refine hmf.out.mono ?_
        rintro e w8 ⟨rfl, hb8⟩
        have G8 := HG.out.below hb8 HG.out.lt
        have B8 := HBB.out.trans (hb8.mono HBB.out.size)
        have x0 : w8.cell? ⟨w.heap.size, 0, none⟩ = some (.int .i64 0) := G8.cell (i := 0) rfl
        have x1 : w8.cell? ⟨w.heap.size, 1, none⟩ = some (.int .i64 0) := G8.cell (i := 1) rfl
        have y0 := cells_free G8 0
        have y1 := cells_free G8 1
        have HZ := (G8.set 0 (.int .i64 mx)).set 1 (.int .i64 my)
        have z0 : ((w8.setCell ⟨w.heap.size, 0, none⟩ (.int .i64 mx)).setCell ⟨w.heap.size, 1, none⟩ (.int .i64 my)).cell? ⟨w.heap.size, 0, none⟩ = some (.int .i64 mx) := HZ.cell (i := 0) rfl
        have z1 : ((w8.setCell ⟨w.heap.size, 0, none⟩ (.int .i64 mx)).setCell ⟨w.heap.size, 1, none⟩ (.int .i64 my)).cell? ⟨w.heap.size, 1, none⟩ = some (.int .i64 my) := HZ.cell (i := 1) rfl
        have BZ := Lib.hid ((B8.setCell (p := ⟨w.heap.size, 0, none⟩) (by simp) (.int .i64 mx)).setCell (p := ⟨w.heap.size, 1, none⟩) (by simp) (.int .i64 my))
        clear hb8 HZ G8 B8
        go_wp2
        exact bodyPost_ret (v := .tuple #[.agg #[.int .i64 mx, .int .i64 my], .bool true, .int .i64 0]) (by simp [results, Try.f38, go_sem, z0, z1]) rfl ⟨by rw [hres.out]; rfl, BZ.out⟩
      · have d1 : decide (((comL l m k).length : Int) > 0) = false := by rw [decide_eq_false_iff_not]; omega
        have hz0 : (comL l m k).length = 0 := by omega
        have HZ0 := Lib.hid hz0
        have hnil : comL l m k = [] := List.eq_nil_of_length_eq_zero hz0
        have d2 : decide (0 < (comL l m k).length) = false := by rw [decide_eq_false_iff_not]; omega
        clear hz0
        go_wp2
        go_roundw
        case rel => exact ⟨k + 1, by omega, by go_num, fun j hj => (by
          by_cases e : j = k
          · rw [e]; exact HZ0.out
          · exact HALL.out j (by omega)), HB.out⟩
        case measure => simp [intOf]; omega
    · obtain rfl : k = 3 := by omega
      have hres := Lib.hid (comX_none HALL.out)
      have x0 : wr.cell? ⟨w.heap.size, 0, none⟩ = some (.int .i64 0) := G.cell (i := 0) rfl
      have x1 : wr.cell? ⟨w.heap.size, 1, none⟩ = some (.int .i64 0) := G.cell (i := 1) rfl
      have y0 := cells_free G 0
      have y1 := cells_free G 1
      have HZ := (G.set 0 (.int .i64 0)).set 1 (.int .i64 0)
      have z0 : ((wr.setCell ⟨w.heap.size, 0, none⟩ (.int .i64 0)).setCell ⟨w.heap.size, 1, none⟩ (.int .i64 0)).cell? ⟨w.heap.size, 0, none⟩ = some (.int .i64 0) := HZ.cell (i := 0) rfl
      have z1 : ((wr.setCell ⟨w.heap.size, 0, none⟩ (.int .i64 0)).setCell ⟨w.heap.size, 1, none⟩ (.int .i64 0)).cell? ⟨w.heap.size, 1, none⟩ = some (.int .i64 0) := HZ.cell (i := 1) rfl
      have BZ := Lib.hid ((BB.setCell (p := ⟨w.heap.size, 0, none⟩) (by simp) (.int .i64 0)).setCell (p := ⟨w.heap.size, 1, none⟩) (by simp) (.int .i64 0))
      clear HZ G BB hB
      go_wp2
      exact bodyPost_ret (v := .tuple #[.agg #[.int .i64 0, .int .i64 0], .bool false, .int .i64 0]) (by simp [results, Try.f38, go_sem, z0, z1]) rfl ⟨by rw [hres.out]; rfl, BZ.out⟩
end Go.Proofs.Ytjjkmonfihomnaa
