/- landfallref03's Around: the hull of points. | landfallref33's Few, polygons and Rocks; the laws' usable. | The head of the laws on package rocks: its example. | Plain: what the first rock that is hit says. Slices of rocks. | Plain: what cut.Apart reports, in words of geometry. | Plain: polygons that are moved as a whole. | landfallref04's Crossings. (Printed by tools/mkrcross.py.) | landfallref04's Common; landfallref33's First and Hit. (Printed by tools/mkrrocks.py.) | package mink: plus, the function that Shift hands to each, each. | landfallref06.Moved. (Printed by tools/mkmoved.py.) -/
import Derived.Test.YtdpnhckbabjagaaGreatBin23
import Derived.Test.YtdpnhckbabjagaaGreatBin07
import Derived.Test.YtdpnhckbabjagaaGreatBin22
import Derived.Deep.CutRange
import Derived.Test.YtdpnhckbabjagaaGreatBin21
import Derived.Test.YtdpnhckbabjagaaGreatBin09
namespace Go.Proofs.YtdpnhckbabjagaaGreat
open Go.RowKit
attribute [local irreducible] wpQuiet

def lenOf : Value → Nat
  | .slice _ n _ => n
  | _ => 0
/-- a list of points' row under a greater count: the next one -/
theorem range_snoc (f : Nat → Pt) (k : Nat) : (List.range (k + 1)).map f = (List.range k).map f ++ [f k] := by simp [List.range_succ]
/-- what a round of Around sees -/
def AS (F B : Nat) (fx fy tx ty : Int) (k : Nat) (xs : List Value) (out : Value) (w wr : World) : Prop :=
  w.heap.size ≤ B ∧ B < wr.heap.size ∧ w.heap.size ≤ F ∧ F < wr.heap.size ∧ B ≠ F ∧ out.ownBlock ≠ some B ∧ Has wr F #[.int .i64 fx, .int .i64 fy] 44 ∧ Has wr B #[.int .i64 tx, .int .i64 ty] 44 ∧
  wr.ownsRow (F + 1) 44 2 out k xs ∧ Below w.heap.size w wr
theorem Has.kept {W W' : World} {B : Nat} {cs : Array Value} {t : TypeId} {row : Option Nat} (h : Has W B cs t) (hg : W.grownBy W' row) (hne : row ≠ some B) : Has W' B cs t :=
  (hg.block B h.lt (fun e => hne e.symm)).trans h
theorem row_pos {W : World} {base k size : Nat} {e : TypeId} {v : Value} {xs : List Value} (h : W.ownsRow base e size v k xs) : lenOf v = k := by
  rcases h.2 with ⟨rfl, h0⟩ | ⟨g, cap, cur, rfl, _⟩
  · exact h0.symm
  · rfl

set_option linter.unusedSimpArgs false in
set_option linter.unusedVariables false in
set_option maxRecDepth 8000 in
set_option maxHeartbeats 4000000 in
theorem around_any (v : Value) (l : List Pt) (w : World) (hp : PtsAt w.heap.size w v l) (hl : ∀ k, k < l.length → far6 (nth l k)) (hsz : l.length ≤ 1000000) :
    Calls Tryz.prog 130 #[v] w (PtsQ (hullP l) w) := by
  by_cases h0 : l = []
  · subst h0
    obtain ⟨a, cap, rfl⟩ := hp.len
    have e : hullP [] = [] := ((hullP_of []).none rfl)
    rw [e]
    clear e hp hl
    go_enter Tryz.func130, Tryz.ntmps130
    go_wp2
    go_ret
    exact ⟨_, rfl, PtsAt.nil _ _, Below.refl _ _⟩
  have h1 : 0 < l.length := List.length_pos_iff.2 h0
  have hm := leastP_mem (l := l) h1
  have hle := leastP_le (l := l)
  obtain ⟨N, n1, n2, n3, n4⟩ := walk_round hm hle
  have HH := Lib.hid ((hullP_eq (hull_walk hm hle n1 n3 n4)).symm)
  have hwl : ∀ k, far6 (walkP l (leastP l) k) := fun k => by
    obtain ⟨j, hj, e⟩ := mem_nth' (walk_ok hm hle k).1
    rw [← e]; exact hl j hj
  have c1 := Lib.hid (least3_any v l w hp h1)
  have c2 := Lib.hid (fun (W : World) (B : Below w.heap.size w W) (t : Pt) (ht : far6 t) => next_any v l t W ((hp.below B).mono B.size) hl ht)
  obtain ⟨a, cap, rfl⟩ := hp.len
  obtain ⟨⟨fx, fy⟩, hf⟩ : ∃ f, leastP l = f := ⟨_, rfl⟩
  rw [hf] at HH hwl c1 n3 n4
  have HW := Lib.hid hwl
  have HN := Lib.hid (And.intro n3 n4)
  have dl : ((l.length : Int) == 0) = false := by rw [beq_eq_false_iff_ne]; omega
  clear hp hl hm hle hf hwl n3 n4
  go_enter Tryz.func130, Tryz.ntmps130
  go_wp2_with fail
  refine c1.out.mono ?_
  rintro e w1 ⟨rfl, b1⟩
  have z1 := b1.size
  have f0 := Has.new w1 #[.int .i64 fx, .int .i64 fy] 44
  have A1 := (Below.refl w1.heap.size w1).alloc (Nat.le_refl _) (.cells #[.int .i64 fx, .int .i64 fy] 44)
  have sz1 : (w1.alloc (.cells #[.int .i64 fx, .int .i64 fy] 44)).heap.size = w1.heap.size + 1 := by simp
  have f1 := f0.below ((Below.refl (w1.heap.size + 1) _).alloc (by simp) (.cells #[.int .i64 fx, .int .i64 fy] 44)) (by omega)
  have r1 : ((w1.alloc (.cells #[.int .i64 fx, .int .i64 fy] 44)).alloc (.cells #[.int .i64 fx, .int .i64 fy] 44)).ownsRow (w1.heap.size + 1) 44 2 (.slice (some ⟨w1.heap.size + 1, 0, none⟩) 1 1) 1 [.int .i64 fx, .int .i64 fy] := by
    have := World.ownsRow_lit (base := w1.heap.size + 1) (e := 44) (size := 2) (w1.alloc (.cells #[.int .i64 fx, .int .i64 fy] 44)) #[.int .i64 fx, .int .i64 fy] 1 (by simp) (by unfold maxLen; omega) rfl
    rwa [sz1] at this
  have B2 := (b1.trans (A1.mono z1)).trans (((Below.refl _ (w1.alloc (.cells #[.int .i64 fx, .int .i64 fy] 44))).alloc (Nat.le_refl _) (.cells #[.int .i64 fx, .int .i64 fy] 44)).mono (by rw [sz1]; omega) : Below w.heap.size _ _)
  have c0 := f0.cell (i := 0) rfl
  have c0' := f0.cell (i := 1) rfl
  have c3 := f1.cell (i := 0) rfl
  have c4 := f1.cell (i := 1) rfl
  have F1 := Lib.hid (And.intro f1 (And.intro r1 B2))
  have zF : w.heap.size ≤ w1.heap.size := z1
  have zT : w1.heap.size + 1 < ((w1.alloc (.cells #[.int .i64 fx, .int .i64 fy] 44)).alloc (.cells #[.int .i64 fx, .int .i64 fy] 44)).heap.size := by simp
  clear b1 A1 f0 f1 r1 B2 sz1
  go_wp2_with fail
  generalize (w1.alloc (.cells #[.int .i64 fx, .int .i64 fy] 44)).alloc (.cells #[.int .i64 fx, .int .i64 fy] 44) = W2 at *
  have d2 := c2.out W2 F1.out.2.2 ⟨fx, fy⟩ (HW.out 0)
  refine d2.mono ?_
  rintro e w3 ⟨rfl, b3⟩
  have HW1 : Hid (walkP l ⟨fx, fy⟩ 1 = nextP l ⟨fx, fy⟩) := rfl
  obtain ⟨⟨ux, uy⟩, hu⟩ : ∃ u, nextP l ⟨fx, fy⟩ = u := ⟨_, rfl⟩
  rw [hu] at HW1
  simp only [hu]
  have A4 := (Below.refl w3.heap.size w3).alloc (Nat.le_refl _) (.cells #[.int .i64 ux, .int .i64 uy] 44)
  have G4 := Has.new w3 #[.int .i64 ux, .int .i64 uy] 44
  have Z3 := b3.size
  have S4 : Hid (AS w1.heap.size w3.heap.size fx fy ux uy 1 [.int .i64 fx, .int .i64 fy] (.slice (some ⟨w1.heap.size + 1, 0, none⟩) 1 1) w (w3.alloc (.cells #[.int .i64 ux, .int .i64 uy] 44))) := by
    obtain ⟨f1, r1, B2⟩ := F1.out
    refine ⟨by omega, by simp, zF, by simp; omega, by omega, ?_, ?_, G4, prow_below (prow_below r1 b3) A4, B2.trans ((b3.mono (by omega)).trans (A4.mono (by omega)))⟩
    · simp only [Value.ownBlock, ne_eq, Option.some.injEq]; omega
    · exact (f1.below b3 (by omega)).below A4 (by omega)
  clear c0 c0' c3 c4 F1 d2 b3 hu A4 G4 c1
  go_wp2
  go_loopw [4, 5] (fun out xp wr => ∃ k B : Nat, 1 ≤ k ∧ k ≤ N ∧ xp = .pointer (some ⟨B, 0, none⟩) ∧ AS w1.heap.size B fx fy (walkP l ⟨fx, fy⟩ k).x (walkP l ⟨fx, fy⟩ k).y k (ptCells ((List.range k).map (walkP l ⟨fx, fy⟩))) out w wr) (fun out _ _ => N - lenOf out)
  case atStart =>
    refine ⟨1, w3.heap.size, by omega, n1, rfl, ?_⟩
    rw [HW1.out]
    exact S4.out
  case round =>
    obtain ⟨k, B, hk1, hkN, rfl, hS⟩ := hrel
    obtain ⟨s1, s2, s3, s4, s5, s6, g1, g2, hrow, hB⟩ := hS
    have hwk := HW.out k
    have HWk : Hid (walkP l ⟨fx, fy⟩ (k + 1) = nextP l (walkP l ⟨fx, fy⟩ k)) := rfl
    have hrs := range_snoc (walkP l ⟨fx, fy⟩) k
    have hfin : walkP l ⟨fx, fy⟩ k = ⟨fx, fy⟩ → k = N := fun e => by
      rcases Nat.lt_or_ge k N with h | h
      · exact absurd e (HN.out.2 k hk1 h)
      · omega
    have hfin2 : k = N → walkP l ⟨fx, fy⟩ k = ⟨fx, fy⟩ := fun e => by rw [e]; exact HN.out.1
    obtain ⟨⟨tx, ty⟩, ht⟩ : ∃ t, walkP l ⟨fx, fy⟩ k = t := ⟨_, rfl⟩
    rw [ht] at hwk HWk hrs g2 hfin hfin2
    simp only at g2
    clear ht
    have x0 := g1.cell (i := 0) rfl
    have x1 := g1.cell (i := 1) rfl
    have y0 := g2.cell (i := 0) rfl
    have y1 := g2.cell (i := 1) rfl
    have hlen := row_pos hrow
    have HG := Lib.hid (And.intro g1 (And.intro g2 (And.intro hrow (And.intro hB s6))))
    have HRS := Lib.hid hrs
    have HFI := Lib.hid hwk
    clear g1 g2 hrow hB s6 hrs hwk
    rcases (show (tx = fx ∧ ty = fy) ∨ (tx = fx ∧ ¬ ty = fy) ∨ ¬ tx = fx by omega) with ⟨e1, e2⟩ | hne
    · obtain rfl := e1.symm
      obtain rfl := e2.symm
      have hkn := hfin rfl
      clear hfin hfin2
      go_wp2
      go_ret
      refine ⟨_, rfl, ?_, HG.out.2.2.2.1⟩
      rw [HH.out, ← hkn]
      exact PtsAt.own (HG.out.2.2.1) (by simp; omega)
    · have hkn : k < N := by
        rcases Nat.lt_or_ge k N with h | h
        · exact h
        · have := hfin2 (by omega)
          simp only [Pt.mk.injEq] at this
          omega
      clear hfin hfin2
      obtain ⟨i0, hi, hz0', hz1', hz2'⟩ := info_parts ptInfo
      rcases hne with ⟨e1, hne⟩ | hne
      · obtain rfl := e1.symm
        go_wp2_with (at_builtin; refine wpList_append_own _ rfl _ _ 22 rfl (w1.heap.size + 1) 44 i0 (.agg #[.int .i64 0, .int .i64 0]) 2 16 Tryz.underlying22 hi hz0' hz1' hz2' rfl (by decide) _ _ _ rfl (HG.out.2.2.1.alloc _) ⟨wr.heap.size, 0, none⟩ 1 1 [.int .i64 fx, .int .i64 ty] rfl rfl (pt_new _ _ _) (by simp [Value.oneCell']) (by unfold maxLen; omega) (by omega) (by simp; omega) ?_; intro v' w4 hown' hgrow _; have G2 := ((HG.out.2.1.below ((Below.refl wr.heap.size wr).alloc (Nat.le_refl _) (.cells #[.int .i64 fx, .int .i64 ty] 44)) s2).kept hgrow HG.out.2.2.2.2); have m0 := G2.cell (i := 0) rfl; have m1 := G2.cell (i := 1) rfl; have n0 := (Has.new w4 #[.int .i64 fx, .int .i64 ty] 44).cell (i := 0) rfl; have n1 := (Has.new w4 #[.int .i64 fx, .int .i64 ty] 44).cell (i := 1) rfl; clear G2)
        obtain ⟨g1, g2, hrow, hB, s6⟩ := HG.out
        have hA := (Below.refl wr.heap.size wr).alloc (Nat.le_refl _) (.cells #[.int .i64 fx, .int .i64 ty] 44)
        have hlt := hrow.lt
        have hA' : (wr.alloc (.cells #[.int .i64 fx, .int .i64 ty] 44)).heap.size = wr.heap.size + 1 := by simp
        have hz4 := hgrow.size
        have hb4 : Below w.heap.size w w4 := hB.trans (((hA.mono hB.size)).grown hgrow (by omega) (fun j ej => by have := (hlt j ej).1; omega))
        have G1 := (g1.below hA s4).kept hgrow (fun e => by have := (hlt _ e).1; omega)
        have A5 := (Below.refl w4.heap.size w4).alloc (Nat.le_refl _) (.cells #[.int .i64 fx, .int .i64 ty] 44)
        have b5 := hb4.trans (A5.mono hb4.size)
        have d5 := c2.out _ b5 ⟨fx, ty⟩ HFI.out
        refine d5.mono ?_
        rintro e w6 ⟨rfl, b6⟩
        obtain ⟨⟨ux', uy'⟩, hu⟩ : ∃ u, nextP l ⟨fx, ty⟩ = u := ⟨_, rfl⟩
        rw [hu] at HWk
        simp only [hu]
        have N5 := (Has.new w4 #[.int .i64 fx, .int .i64 ty] 44)
        have z5 : (w4.alloc (.cells #[.int .i64 fx, .int .i64 ty] 44)).heap.size = w4.heap.size + 1 := by simp
        have N6 := N5.below b6 (by omega)
        have p0 := N6.cell (i := 0) rfl
        have p1 := N6.cell (i := 1) rfl
        have q0 := cells_free N6 0
        have q1 := cells_free N6 1
        have G6 := (G1.below A5 (by omega)).below b6 (by omega)
        have O6 := prow_below (prow_below hown' A5) b6
        have P6 := (N6.set 0 (.int .i64 ux')).set 1 (.int .i64 uy')
        have hv' := hown'.lt
        have z6 := b6.size
        have B6 := b5.trans (b6.mono b5.size)
        have HZ : Hid (AS w1.heap.size w4.heap.size fx fy ux' uy' (k + 1) (ptCells ((List.range (k + 1)).map (walkP l ⟨fx, fy⟩))) v' w ((w6.setCell ⟨w4.heap.size, 0, none⟩ (.int .i64 ux')).setCell ⟨w4.heap.size, 1, none⟩ (.int .i64 uy'))) := by
          have hz := hb4.size
          have sz : ((w6.setCell ⟨w4.heap.size, 0, none⟩ (.int .i64 ux')).setCell ⟨w4.heap.size, 1, none⟩ (.int .i64 uy')).heap.size = w6.heap.size := by simp [World.setCell]
          refine ⟨hz, by omega, s3, by omega, by omega, fun e => ?_, (G6.other _ _ (by show w1.heap.size ≠ w4.heap.size; omega)).other _ _ (by show w1.heap.size ≠ w4.heap.size; omega), P6, ?_, (B6.setCell (p := ⟨w4.heap.size, 0, none⟩) (by simp; omega) (.int .i64 ux')).setCell (p := ⟨w4.heap.size, 1, none⟩) (by simp; omega) (.int .i64 uy')⟩
          · have := (hv' _ e).2; omega
          · rw [HRS.out, ptCells_append]
            refine prow_block O6 fun g hg => ?_
            have := (hv' g hg).2
            rw [Below.heap_setCell _ _ _ _ (by show g ≠ w4.heap.size; omega), Below.heap_setCell _ _ _ _ (by show g ≠ w4.heap.size; omega)]
        have hl6 := row_pos hown'
        clear g1 g2 hrow hB hA hb4 G1 A5 b5 d5 b6 hu N5 N6 G6 O6 P6 B6 hown' hgrow m0 m1 n0 n1 hlt hv' x0 x1 y0 y1
        go_wp2
        go_roundw
        case rel =>
          refine ⟨k + 1, w4.heap.size, by omega, by omega, rfl, ?_⟩
          rw [HWk.out]
          exact HZ.out
        case measure => omega
      · go_wp2_with (at_builtin; refine wpList_append_own _ rfl _ _ 22 rfl (w1.heap.size + 1) 44 i0 (.agg #[.int .i64 0, .int .i64 0]) 2 16 Tryz.underlying22 hi hz0' hz1' hz2' rfl (by decide) _ _ _ rfl (HG.out.2.2.1.alloc _) ⟨wr.heap.size, 0, none⟩ 1 1 [.int .i64 tx, .int .i64 ty] rfl rfl (pt_new _ _ _) (by simp [Value.oneCell']) (by unfold maxLen; omega) (by omega) (by simp; omega) ?_; intro v' w4 hown' hgrow _; have G2 := ((HG.out.2.1.below ((Below.refl wr.heap.size wr).alloc (Nat.le_refl _) (.cells #[.int .i64 tx, .int .i64 ty] 44)) s2).kept hgrow HG.out.2.2.2.2); have m0 := G2.cell (i := 0) rfl; have m1 := G2.cell (i := 1) rfl; have n0 := (Has.new w4 #[.int .i64 tx, .int .i64 ty] 44).cell (i := 0) rfl; have n1 := (Has.new w4 #[.int .i64 tx, .int .i64 ty] 44).cell (i := 1) rfl; clear G2)
        obtain ⟨g1, g2, hrow, hB, s6⟩ := HG.out
        have hA := (Below.refl wr.heap.size wr).alloc (Nat.le_refl _) (.cells #[.int .i64 tx, .int .i64 ty] 44)
        have hlt := hrow.lt
        have hA' : (wr.alloc (.cells #[.int .i64 tx, .int .i64 ty] 44)).heap.size = wr.heap.size + 1 := by simp
        have hz4 := hgrow.size
        have hb4 : Below w.heap.size w w4 := hB.trans (((hA.mono hB.size)).grown hgrow (by omega) (fun j ej => by have := (hlt j ej).1; omega))
        have G1 := (g1.below hA s4).kept hgrow (fun e => by have := (hlt _ e).1; omega)
        have A5 := (Below.refl w4.heap.size w4).alloc (Nat.le_refl _) (.cells #[.int .i64 tx, .int .i64 ty] 44)
        have b5 := hb4.trans (A5.mono hb4.size)
        have d5 := c2.out _ b5 ⟨tx, ty⟩ HFI.out
        refine d5.mono ?_
        rintro e w6 ⟨rfl, b6⟩
        obtain ⟨⟨ux', uy'⟩, hu⟩ : ∃ u, nextP l ⟨tx, ty⟩ = u := ⟨_, rfl⟩
        rw [hu] at HWk
        simp only [hu]
        have N5 := (Has.new w4 #[.int .i64 tx, .int .i64 ty] 44)
        have z5 : (w4.alloc (.cells #[.int .i64 tx, .int .i64 ty] 44)).heap.size = w4.heap.size + 1 := by simp
        have N6 := N5.below b6 (by omega)
        have p0 := N6.cell (i := 0) rfl
        have p1 := N6.cell (i := 1) rfl
        have q0 := cells_free N6 0
        have q1 := cells_free N6 1
        have G6 := (G1.below A5 (by omega)).below b6 (by omega)
        have O6 := prow_below (prow_below hown' A5) b6
        have P6 := (N6.set 0 (.int .i64 ux')).set 1 (.int .i64 uy')
        have hv' := hown'.lt
        have z6 := b6.size
        have B6 := b5.trans (b6.mono b5.size)
        have HZ : Hid (AS w1.heap.size w4.heap.size fx fy ux' uy' (k + 1) (ptCells ((List.range (k + 1)).map (walkP l ⟨fx, fy⟩))) v' w ((w6.setCell ⟨w4.heap.size, 0, none⟩ (.int .i64 ux')).setCell ⟨w4.heap.size, 1, none⟩ (.int .i64 uy'))) := by
          have hz := hb4.size
          have sz : ((w6.setCell ⟨w4.heap.size, 0, none⟩ (.int .i64 ux')).setCell ⟨w4.heap.size, 1, none⟩ (.int .i64 uy')).heap.size = w6.heap.size := by simp [World.setCell]
          refine ⟨hz, by omega, s3, by omega, by omega, fun e => ?_, (G6.other _ _ (by show w1.heap.size ≠ w4.heap.size; omega)).other _ _ (by show w1.heap.size ≠ w4.heap.size; omega), P6, ?_, (B6.setCell (p := ⟨w4.heap.size, 0, none⟩) (by simp; omega) (.int .i64 ux')).setCell (p := ⟨w4.heap.size, 1, none⟩) (by simp; omega) (.int .i64 uy')⟩
          · have := (hv' _ e).2; omega
          · rw [HRS.out, ptCells_append]
            refine prow_block O6 fun g hg => ?_
            have := (hv' g hg).2
            rw [Below.heap_setCell _ _ _ _ (by show g ≠ w4.heap.size; omega), Below.heap_setCell _ _ _ _ (by show g ≠ w4.heap.size; omega)]
        have hl6 := row_pos hown'
        clear g1 g2 hrow hB hA hb4 G1 A5 b5 d5 b6 hu N5 N6 G6 O6 P6 B6 hown' hgrow m0 m1 n0 n1 hlt hv' x0 x1 y0 y1
        go_wp2
        go_roundw
        case rel =>
          refine ⟨k + 1, w4.heap.size, by omega, by omega, rfl, ?_⟩
          rw [HWk.out]
          exact HZ.out
        case measure => omega
end Go.Proofs.YtdpnhckbabjagaaGreat

namespace Go.Proofs.YtdpnhckbabjagaaGreat
open Go.RowKit
attribute [local irreducible] wpQuiet


open Classical in
/-- all are polygons -/
noncomputable def polysB (ls : List (List Pt)) : Bool := decide (∀ j, j < ls.length → goValid (rk ls j) = true)
theorem polysB_iff {ls : List (List Pt)} : polysB ls = true ↔ ∀ j, j < ls.length → goValid (rk ls j) = true := by unfold polysB; rw [decide_eq_true_eq]
end Go.Proofs.YtdpnhckbabjagaaGreat

namespace Go.Proofs.YtdpnhckbabjagaaGreat
open Go.RowKit
attribute [local irreducible] wpQuiet



theorem PtsAt.has {W : World} {B : Nat} {cs : Array Value} {t : TypeId} {l : List Pt} {cap : Nat} (h : Has W B cs t) (hl : l.length ≤ 70368744177663) (hcs : cs = (ptCells l).toArray) :
    PtsAt W.heap.size W (.slice (some ⟨B, 0, none⟩) l.length (l.length + cap)) l := by
  subst hcs
  refine ⟨hl, some ⟨B, 0, none⟩, cap, rfl, .inr ⟨B, 0, rfl, h.lt, fun j hj => ?_⟩⟩
  obtain ⟨f0, f1⟩ := ptCells_get l j hj
  rw [Nat.zero_add]
  exact ⟨h.cell (by simpa using f0), h.cell (by simpa using f1)⟩
theorem Has.alloc {W : World} {B : Nat} {cs : Array Value} {t : TypeId} (h : Has W B cs t) (o : Obj) : Has (W.alloc o) B cs t :=
  h.below ((Below.refl W.heap.size W).alloc (Nat.le_refl _) o) h.lt
theorem RocksAt.has {W : World} {B : Nat} {cs : Array Value} {t : TypeId} {ls : List (List Pt)} {cap : Nat} (h : Has W B cs t) (hl : ls.length ≤ 70368744177663)
    (hcs : ∀ j, j < ls.length → ∃ u, cs[j]? = some u ∧ PtsAt W.heap.size W u (rk ls j)) :
    RocksAt W.heap.size W (.slice (some ⟨B, 0, none⟩) ls.length (ls.length + cap)) ls := by
  refine ⟨hl, some ⟨B, 0, none⟩, cap, rfl, .inr ⟨B, 0, rfl, h.lt, fun j hj => ?_⟩⟩
  obtain ⟨u, hu, hp⟩ := hcs j hj
  exact ⟨u, h.cell (by rw [Nat.zero_add]; exact hu), hp⟩

end Go.Proofs.YtdpnhckbabjagaaGreat

namespace Go.Proofs.YtdpnhckbabjagaaGreat

theorem hitTo_some {c : List Pt} {ls : List (List Pt)} : ∀ {k i}, hitTo c ls k = some i → i < k ∧ touchB c (rk ls i) = true ∧ ∀ j, j < i → touchB c (rk ls j) = false
  | 0, i, h => by cases h
  | k + 1, i, h => by
    simp only [hitTo] at h
    cases hk : hitTo c ls k with
    | some q =>
      rw [hk] at h
      simp only [Option.isSome_some, if_true] at h
      cases h
      obtain ⟨h1, h2, h3⟩ := hitTo_some hk
      exact ⟨by omega, h2, h3⟩
    | none =>
      rw [hk] at h
      simp only [Option.isSome_none, Bool.false_eq_true, if_false] at h
      split at h
      · cases h
        refine ⟨by omega, by assumption, fun j hj => ?_⟩
        exact hitTo_none hk j hj
      · cases h
where
  hitTo_none {c : List Pt} {ls : List (List Pt)} : ∀ {k}, hitTo c ls k = none → ∀ j, j < k → touchB c (rk ls j) = false
  | 0, _, j, hj => by omega
  | k + 1, h, j, hj => by
    simp only [hitTo] at h
    cases hk : hitTo c ls k with
    | some q => rw [hk] at h; cases h
    | none =>
      rw [hk] at h
      simp only [Option.isSome_none, Bool.false_eq_true, if_false] at h
      split at h
      · cases h
      · rename_i ht
        by_cases e : j = k
        · rw [e]; simpa using ht
        · exact hitTo_none hk j (by omega)
theorem hitTo_none {c : List Pt} {ls : List (List Pt)} {k : Nat} (h : hitTo c ls k = none) : ∀ j, j < k → touchB c (rk ls j) = false := hitTo_some.hitTo_none h
theorem rk_take {ls : List (List Pt)} {n j : Nat} (h : j < n) : rk (ls.take n) j = rk ls j := by
  unfold rk; simp [List.getD_eq_getElem?_getD, h]

/-- the first n of the rocks in a slice -/
theorem RocksAt.take {n0 : Nat} {W : World} {a : Option Addr} {ls : List (List Pt)} {cap : Nat} (h : RocksAt n0 W (.slice a ls.length (ls.length + cap)) ls) {n : Nat} (hn : n ≤ ls.length) :
    RocksAt n0 W (.slice a n (ls.length + cap)) (ls.take n) := by
  obtain ⟨hl, a', cap', he, hc⟩ := h
  have e : (ls.take n).length = n := by simp; omega
  simp only [Value.slice.injEq] at he
  obtain ⟨rfl, _, hcap⟩ := he
  refine ⟨by omega, a, ls.length - n + cap, by rw [e, show n + (ls.length - n + cap) = ls.length + cap by omega], ?_⟩
  rcases hc with rfl | ⟨b, o, rfl, hb, hcc⟩
  · left; simp
  · refine .inr ⟨b, o, rfl, hb, fun j hj => ?_⟩
    rw [e] at hj
    rw [rk_take hj]
    exact hcc j (by omega)
theorem RocksAt.one {n0 : Nat} {W : World} {b o : Nat} {ls : List (List Pt)} {cap cap1 : Nat} (h : RocksAt n0 W (.slice (some ⟨b, o, none⟩) ls.length (ls.length + cap)) ls) {i : Nat} (hi : i < ls.length) :
    RocksAt n0 W (.slice (some ⟨b, o + i, none⟩) 1 (1 + cap1)) [rk ls i] := by
  obtain ⟨hl, a', cap', he, hc⟩ := h
  simp only [Value.slice.injEq] at he
  obtain ⟨rfl, _, hcap⟩ := he
  refine ⟨by simp, some ⟨b, o + i, none⟩, cap1, rfl, ?_⟩
  rcases hc with rfl | ⟨b', o', e, hb, hcc⟩
  · simp at hi
  · cases e
    refine .inr ⟨b, o + i, rfl, hb, fun j hj => ?_⟩
    obtain rfl : j = 0 := by simpa using hj
    exact hcc i hi
end Go.Proofs.YtdpnhckbabjagaaGreat

namespace Go.Proofs.YtdpnhckbabjagaaGreat

theorem goValid_of {l : List Pt} (h : GoValid l) : goValid l = true := by simpa [goValid] using h

end Go.Proofs.YtdpnhckbabjagaaGreat

namespace Go.Proofs.YtdpnhckbabjagaaGreat

def mvP (b x : Pt) : Pt := ⟨x.x + b.x, x.y + b.y⟩
def mvL (b : Pt) (l : List Pt) : List Pt := l.map (mvP b)
def mvS (b : Pt) (s : Pt × Pt) : Pt × Pt := (mvP b s.1, mvP b s.2)
theorem mvL_len (b : Pt) (l : List Pt) : (mvL b l).length = l.length := by simp [mvL]
theorem nth_mvL (b : Pt) {l : List Pt} {k : Nat} (h : k < l.length) : nth (mvL b l) k = mvP b (nth l k) := by
  simp [mvL, nth, List.getD_eq_getElem?_getD, List.getElem?_eq_getElem h]
theorem turn_mv (b p q r : Pt) : turnP (mvP b p) (mvP b q) (mvP b r) = turnP p q r := by unfold turnP turnV mvP; grind
theorem side_mv (b : Pt) {l : List Pt} {k : Nat} (h : k < l.length) : sideP (mvL b l) k = mvS b (sideP l k) := by
  unfold sideP mvS
  rw [mvL_len, nth_mvL b h, nth_mvL b (Nat.mod_lt _ (by omega))]

theorem place_iff {p : Pt} : placeP p = true ↔ -500000 ≤ p.x ∧ p.x ≤ 500000 ∧ -500000 ≤ p.y ∧ p.y ≤ 500000 := by simp [placeP, placeB]
theorem cmp_mv (b p q : Pt) : cmpP (mvP b p) (mvP b q) = cmpP p q := by
  have c : ∀ u v w : Int, cmpI (u + w) (v + w) = cmpI u v := fun u v w => by unfold cmpI; repeat' split
                                                                             all_goals omega
  simp only [cmpP, cmpV, mvP, c]
section
variable {b : Pt} {l m : List Pt} (hl : goValid l = true) (hm : goValid m = true) (hl' : goValid (mvL b l) = true) (hm' : goValid (mvL b m) = true)
include hl hm hl' hm'
end
end Go.Proofs.YtdpnhckbabjagaaGreat

namespace Go.Proofs.YtdpnhckbabjagaaGreat
open Go.RowKit
attribute [local irreducible] wpQuiet

/-- what a round of Crossings sees: the corners of two sides, and the list so far -/
structure CS (A B : Nat) (ax ay bx by' : Int) (xs : List Pt) (out : Value) (w W : World) : Prop where
  hA : w.heap.size ≤ A ∧ A < W.heap.size
  hB : w.heap.size ≤ B ∧ B < W.heap.size
  nA : out.ownBlock ≠ some A
  nB : out.ownBlock ≠ some B
  gA : Has W A #[.int .i64 ax, .int .i64 ay] 44
  gB : Has W B #[.int .i64 bx, .int .i64 by'] 44
  row : W.ownsRow w.heap.size 44 2 out xs.length (ptCells xs)
  bel : Below w.heap.size w W
theorem CS.below {A B : Nat} {ax ay bx by' : Int} {xs : List Pt} {out : Value} {w W W' : World} (h : CS A B ax ay bx by' xs out w W) (hb : Below W.heap.size W W') : CS A B ax ay bx by' xs out w W' :=
  ⟨⟨h.hA.1, Nat.lt_of_lt_of_le h.hA.2 hb.size⟩, ⟨h.hB.1, Nat.lt_of_lt_of_le h.hB.2 hb.size⟩, h.nA, h.nB, h.gA.below hb h.hA.2, h.gB.below hb h.hB.2, prow_below h.row hb, h.bel.trans (hb.mono h.bel.size)⟩
/-- the corners of the second side -/
structure DS (C D : Nat) (cx cy dx dy : Int) (W : World) : Prop where
  gC : Has W C #[.int .i64 cx, .int .i64 cy] 44
  gD : Has W D #[.int .i64 dx, .int .i64 dy] 44
theorem DS.below {C D : Nat} {cx cy dx dy : Int} {W W' : World} (h : DS C D cx cy dx dy W) (hb : Below W.heap.size W W') : DS C D cx cy dx dy W' := ⟨h.gC.below hb h.gC.lt, h.gD.below hb h.gD.lt⟩


end Go.Proofs.YtdpnhckbabjagaaGreat

namespace Go.Proofs.YtdpnhckbabjagaaGreat
open Go.RowKit
attribute [local irreducible] wpQuiet



/-- the result variable, and all that lay before -/
def RS (n : Nat) (w W : World) : Prop := Has W n #[.int .i64 0, .int .i64 0] 44 ∧ Below n w W
theorem RS.below {n : Nat} {w W W' : World} (h : RS n w W) (hb : Below W.heap.size W W') : RS n w W' :=
  ⟨h.1.below hb h.1.lt, h.2.trans (hb.mono (Nat.le_of_lt h.1.lt))⟩


end Go.Proofs.YtdpnhckbabjagaaGreat

namespace Go.Proofs.YtdpnhckbabjagaaGreat
open Go.RowKit
attribute [local irreducible] wpQuiet

theorem plus_any (p q : Pt) (w : World) (hp : placeP p = true) (hq : placeP q = true) :
    Calls Tryz.prog 46 #[.agg #[.int .i64 p.x, .int .i64 p.y], .agg #[.int .i64 q.x, .int .i64 q.y]] w fun e w' => e = .returned (.agg #[.int .i64 (mvP q p).x, .int .i64 (mvP q p).y]) ∧ Below w.heap.size w w' := by
  rw [place_iff] at hp hq
  obtain ⟨px, py⟩ := p
  obtain ⟨qx, qy⟩ := q
  simp only at hp hq
  show Calls _ _ _ _ fun e w' => e = .returned (.agg #[.int .i64 (px + qx), .int .i64 (py + qy)]) ∧ _
  have m1 : IntKind.i64.wrap (px + qx) = px + qx := IntWalk.i64_in _ (by omega)
  have m2 : IntKind.i64.wrap (py + qy) = py + qy := IntWalk.i64_in _ (by omega)
  clear hp hq
  go_enter Tryz.func46, Tryz.ntmps46
  go_wp2
  refine bodyPost_ret (v := .agg #[.int .i64 (px + qx), .int .i64 (py + qy)]) (by simp [results, Tryz.f46, go_sem]) rfl ⟨rfl, ?_⟩
  repeat (first | exact Below.refl _ _ | assumption | apply Below.drew | refine Below.setCell ?_ (by first | omega | (simp; done) | (simp; omega)) _ | refine Below.alloc ?_ (by first | omega | (simp; done) | (simp; omega)) _ | refine Below.call (by assumption) ?_ (by first | omega | (simp; done) | (simp; omega)))
theorem shift1_any (Bd : Nat) (x d : Pt) (w : World) (hx : placeP x = true) (hd : placeP d = true) (HD : Has w Bd #[.int .i64 d.x, .int .i64 d.y] 44) :
    Calls Tryz.prog 45 #[.agg #[.int .i64 x.x, .int .i64 x.y], .pointer (some ⟨Bd, 0, none⟩)] w fun e w' => e = .returned (.agg #[.int .i64 (mvP d x).x, .int .i64 (mvP d x).y]) ∧ Below w.heap.size w w' := by
  have f := Lib.hid (fun w1 => plus_any x d w1 hx hd)
  have hlt := HD.lt
  have c0 := HD.cell (i := 0) rfl
  have c1 := HD.cell (i := 1) rfl
  have H := Has.new (w.alloc (.cells #[.int .i64 x.x, .int .i64 x.y] 44)) #[.int .i64 0, .int .i64 0] 44
  rw [show (w.alloc (.cells #[.int .i64 x.x, .int .i64 x.y] 44)).heap.size = w.heap.size + 1 by simp] at H
  have H := Lib.hid H
  have B0 := Lib.hid (show Below w.heap.size w ((w.alloc (.cells #[.int .i64 x.x, .int .i64 x.y] 44)).alloc (.cells #[.int .i64 0, .int .i64 0] 44)) from ((Below.refl _ _).alloc (Nat.le_refl _) _).alloc (by first | omega | (simp; done) | (simp; omega)) _)
  generalize mvP d x = r at *
  clear HD hx hd
  go_enter Tryz.func45, Tryz.ntmps45
  go_wp2_with fail
  refine (f.out _).mono ?_
  rintro e w1 ⟨rfl, hb1⟩
  have H1 := H.out.below hb1 (by simp)
  have x0 := cells_cell H1 (i := 0) rfl
  have x1 := cells_cell H1 (i := 1) rfl
  have y0 := cells_free H1 0
  have y1 := cells_free H1 1
  have z0 := cells_cell (H1.set 0 (.int .i64 r.x)) (i := 0) rfl
  have z1 := cells_cell ((H1.set 0 (.int .i64 r.x)).set 1 (.int .i64 r.y)) (i := 1) rfl
  have B1 := Lib.hid (B0.out.trans (hb1.mono B0.out.size))
  clear hb1 H1 c0 c1
  go_wp2
  refine bodyPost_ret (v := .agg #[.int .i64 r.x, .int .i64 r.y]) (by simp [results, Tryz.f45, go_sem, z0, z1]) rfl ⟨rfl, ?_⟩
  exact (B1.out.setCell (p := ⟨w.heap.size + 1, 0, none⟩) (by simp) _).setCell (p := ⟨w.heap.size + 1, 1, none⟩) (by simp) _
theorem mvL_take2 (d : Pt) (l : List Pt) {k : Nat} (h : k < l.length) : mvL d (l.take (k + 1)) = mvL d (l.take k) ++ [mvP d (nth l k)] := by
  have e : nth l k = l[k] := by simp [nth, List.getD_eq_getElem?_getD, List.getElem?_eq_getElem h]
  unfold mvL
  rw [List.take_add_one, List.getElem?_eq_getElem h, List.map_append, e]
  rfl
set_option maxRecDepth 8000 in
set_option maxHeartbeats 1600000 in
theorem each_any (v : Value) (l : List Pt) (Bd : Nat) (d : Pt) (w : World) (hp : PtsAt w.heap.size w v l) (HD : Has w Bd #[.int .i64 d.x, .int .i64 d.y] 44) (hs : l.length ≤ 64) (hpl : ∀ k, k < l.length → placeP (nth l k) = true) (hd : placeP d = true) :
    Calls Tryz.prog 44 #[v, .func (.func 45) #[] #[.pointer (some ⟨Bd, 0, none⟩)]] w (PtsQ (mvL d l) w) := by
  obtain ⟨hll, a, cap, rfl, hc⟩ := hp
  have HC := Lib.hid hc
  have HPL := Lib.hid hpl
  have HDD := Lib.hid HD
  have HDP := Lib.hid hd
  obtain ⟨i0, hi, hz0', hz1', hz2'⟩ := info_parts ptInfo
  clear hc hpl hd HD
  go_enter Tryz.func44, Tryz.ntmps44
  go_wp2
  go_loopw [5, 10] (fun v i wr => ∃ k : Nat, k ≤ l.length ∧ i = .int .i64 (k : Int) ∧ wr.ownsRow w.heap.size 44 2 v k (ptCells (mvL d (l.take k))) ∧ Below w.heap.size w wr) (fun _ i _ => l.length - (intOf i).toNat)
  case atStart => exact ⟨0, by omega, rfl, World.ownsRow_nil _ _ _ _, Below.refl _ _⟩
  case round =>
    obtain ⟨k, hk, rfl, hrow, hB⟩ := hrel
    have hzB := hB.size
    by_cases hlt : k < l.length
    · obtain ⟨b, o, rfl, hb, hcc⟩ : ∃ b o, a = some ⟨b, o, none⟩ ∧ b < w.heap.size ∧ ∀ j, j < l.length → w.cell? ⟨b, o + j * 2, none⟩ = some (.int .i64 (nth l j).x) ∧ w.cell? ⟨b, o + j * 2 + 1, none⟩ = some (.int .i64 (nth l j).y) := by
        rcases HC.out with h | h
        · rw [h] at hlt; simp at hlt
        · exact h
      obtain ⟨q0, q1⟩ := hcc k hlt
      have c0 := (hB.cell (p := ⟨b, o + k * 2, none⟩) hb).trans q0
      have c1 := (hB.cell (p := ⟨b, o + k * 2 + 1, none⟩) hb).trans q1
      have hst := Lib.hid (mvL_take2 d l hlt)
      have f := Lib.hid (fun w1 (B : Below w.heap.size w w1) => shift1_any Bd (nth l k) d w1 (HPL.out k hlt) HDP.out (HDD.out.below B HDD.out.lt))
      generalize mvP d (nth l k) = r at *
      generalize (nth l k).x = px at *
      generalize (nth l k).y = py at *
      have kl : (k : Int) < l.length := by omega
      have k0 : (0 : Int) ≤ k := by omega
      have dk : decide ((k : Int) < (l.length : Int)) = true := by simp; omega
      have HR := Lib.hid hrow
      have HB := Lib.hid hB
      have BA := Lib.hid (show Below wr.heap.size wr (wr.alloc (.cells #[.int .i64 px, .int .i64 py] 44)) from (Below.refl _ _).alloc (Nat.le_refl _) _)
      clear hcc q0 q1 hrow hB
      go_wp2_with fail
      refine (f.out _ (HB.out.trans (BA.out.mono HB.out.size))).mono ?_
      rintro e w2 ⟨rfl, b2⟩
      have B2 := Lib.hid (BA.out.trans (b2.mono BA.out.size))
      have R2 := Lib.hid (prow_below HR.out B2.out)
      have z2 := B2.out.size
      clear b2
      go_wp2_with (at_builtin; refine wpList_append_own _ rfl _ _ 22 rfl w.heap.size 44 i0 (.agg #[.int .i64 0, .int .i64 0]) 2 16 Tryz.underlying22 hi hz0' hz1' hz2' rfl (by decide) _ _ _ rfl (R2.out.alloc _) ⟨w2.heap.size, 0, none⟩ 1 1 [.int .i64 r.x, .int .i64 r.y] rfl rfl (pt_new _ _ _) (by simp [Value.oneCell']) (by unfold maxLen; omega) (by omega) (by simp; omega) ?_; intro v' w4 hown' hgrow _)
      go_roundw
      case rel =>
        have A2 := (Below.refl w2.heap.size w2).alloc (Nat.le_refl _) (.cells #[.int .i64 r.x, .int .i64 r.y] 44)
        have b4 : Below w.heap.size w w4 := (HB.out.trans ((B2.out.trans (A2.mono z2)).mono hzB)).grown hgrow (by simp; omega) (fun j ej => (R2.out.lt j ej).1)
        refine ⟨k + 1, by omega, by go_num, ?_, b4⟩
        rw [hst.out, ptCells_append]
        exact hown'
      case measure => simp [intOf]; omega
    · obtain rfl : k = l.length := by omega
      have dk : decide ((l.length : Int) < (l.length : Int)) = false := by simp
      rw [List.take_length] at hrow
      have P := Lib.hid (PtsAt.own hrow (by rw [mvL_len]; omega))
      have HB := Lib.hid hB
      clear hrow hB
      go_wp2
      go_ret
      exact ⟨_, rfl, P.out, HB.out⟩
end Go.Proofs.YtdpnhckbabjagaaGreat

namespace Go.Proofs.YtdpnhckbabjagaaGreat
open Go.RowKit
attribute [local irreducible] wpQuiet

theorem mvL_take (d : Pt) (l : List Pt) {k : Nat} (h : k < l.length) : mvL d (l.take (k + 1)) = mvL d (l.take k) ++ [mvP d (nth l k)] := by
  have e : nth l k = l[k] := by simp [nth, List.getD_eq_getElem?_getD, List.getElem?_eq_getElem h]
  unfold mvL
  rw [List.take_add_one, List.getElem?_eq_getElem h, List.map_append, e]
  rfl
set_option linter.unusedSimpArgs false in
set_option maxRecDepth 8000 in
set_option maxHeartbeats 3000000 in
theorem moved_any (vl : Value) (l : List Pt) (d : Pt) (w : World) (hp : PtsAt w.heap.size w vl l) (hs : l.length ≤ 64) (hpl : ∀ k, k < l.length → placeP (nth l k) = true) (hd : placeP d = true) :
    Calls Tryz.prog 107 #[vl, .agg #[.int .i64 d.x, .int .i64 d.y]] w fun e w' => ∃ v, e = .returned v ∧ w'.ownsRow w.heap.size 44 2 v l.length (ptCells (mvL d l)) ∧ Below w.heap.size w w' := by
  obtain ⟨hll, a, cap, rfl, hc⟩ := hp
  have HC := Lib.hid hc
  have HPL := Lib.hid hpl
  have pd := placeB_true hd
  obtain ⟨i0, hi, hz0', hz1', hz2'⟩ := info_parts ptInfo
  obtain ⟨bx, by'⟩ := d
  simp only at pd
  have hA := (Below.refl w.heap.size w).alloc (Nat.le_refl _) (.cells #[.int .i64 bx, .int .i64 by'] 44)
  have HN := Lib.hid (Has.new w #[.int .i64 bx, .int .i64 by'] 44)
  have HA := Lib.hid hA
  have hz1 : (w.alloc (.cells #[.int .i64 bx, .int .i64 by'] 44)).heap.size = w.heap.size + 1 := by simp
  clear hc hpl hd hA
  go_enter Tryz.func107, Tryz.ntmps107
  go_wp2
  go_loopw [5, 6] (fun v i wr => ∃ k : Nat, k ≤ l.length ∧ i = .int .i64 (k : Int) ∧ wr.ownsRow (w.heap.size + 1) 44 2 v k (ptCells (mvL ⟨bx, by'⟩ (l.take k))) ∧ Below (w.heap.size + 1) (w.alloc (.cells #[.int .i64 bx, .int .i64 by'] 44)) wr) (fun _ i _ => l.length - (intOf i).toNat)
  case atStart => exact ⟨0, by omega, rfl, World.ownsRow_nil _ _ _ _, Below.refl _ _⟩
  case round =>
    obtain ⟨k, hk, rfl, hrow, hB⟩ := hrel
    have hzB := hB.size
    rw [hz1] at hzB
    have hBw := HA.out.trans (hB.mono (by omega))
    by_cases hlt : k < l.length
    · obtain ⟨b, o, rfl, hb, hcc⟩ : ∃ b o, a = some ⟨b, o, none⟩ ∧ b < w.heap.size ∧ ∀ j, j < l.length → w.cell? ⟨b, o + j * 2, none⟩ = some (.int .i64 (nth l j).x) ∧ w.cell? ⟨b, o + j * 2 + 1, none⟩ = some (.int .i64 (nth l j).y) := by
        rcases HC.out with h | h
        · rw [h] at hlt; simp at hlt
        · exact h
      obtain ⟨q0, q1⟩ := hcc k hlt
      have pk := placeB_true (HPL.out k hlt)
      have hst := Lib.hid (mvL_take ⟨bx, by'⟩ l hlt)
      have hmv : Hid (mvP ⟨bx, by'⟩ (nth l k) = ⟨(nth l k).x + bx, (nth l k).y + by'⟩) := rfl
      obtain ⟨px, hpx⟩ : ∃ px, (nth l k).x = px := ⟨_, rfl⟩
      obtain ⟨py, hpy⟩ : ∃ py, (nth l k).y = py := ⟨_, rfl⟩
      rw [hpx, hpy] at pk hmv
      rw [hpx] at q0
      rw [hpy] at q1
      have N := HN.out.below hB (by omega)
      have c0 := (hBw.cell (p := ⟨b, o + k * 2, none⟩) hb).trans q0
      have c1 := (hBw.cell (p := ⟨b, o + k * 2 + 1, none⟩) hb).trans q1
      have c2 := N.cell (i := 0) rfl
      have c3 := N.cell (i := 1) rfl
      have m1 : IntKind.i64.wrap (px + bx) = px + bx := IntWalk.i64_in _ (by omega)
      have m2 : IntKind.i64.wrap (py + by') = py + by' := IntWalk.i64_in _ (by omega)
      have dk : decide ((k : Int) < (l.length : Int)) = true := by simp; omega
      have kl : (k : Int) < l.length := by omega
      have k0 : (0 : Int) ≤ k := by omega
      have HR := Lib.hid hrow
      have HB := Lib.hid hB
      have C01 := Lib.hid (And.intro c0 (And.intro c1 (And.intro c2 c3)))
      have hbz : b < wr.heap.size := by omega
      clear hcc q0 q1 hrow hB hBw c0 c1 c2 c3 N hpx hpy pk
      go_wp2
      refine (wpIn_wide (n := 9)).1 ?_
      refine wpIn_region_sched (lets_wide _) 20 (fun X => X.cell? ⟨b, o + k * 2, none⟩ = some (.int .i64 px) ∧ X.cell? ⟨b, o + k * 2 + 1, none⟩ = some (.int .i64 py) ∧ X.cell? ⟨w.heap.size, 0, none⟩ = some (.int .i64 bx) ∧ X.cell? ⟨w.heap.size, 1, none⟩ = some (.int .i64 by')) (by kernel_rfl) (by kernel_rfl) (by kernel_rfl) fun hH inv0 => ?_
      refine sched_take hH (i := 0) (v := u5) (drop_get rfl) (by omega) inv0 (by kernel_rfl) (by kernel_rfl) rfl (fun X hX => ?_) fun inv1 => ?_
      · obtain ⟨x0, x1, x2, x3⟩ := hX; go_simp
      simp only [Act.put, List.setIfInBounds_toArray, List.set_cons_zero, List.set_cons_succ]
      refine sched_take hH (i := 1) (v := (.slice (some ⟨b, o, none⟩) l.length (l.length + cap))) (drop_get rfl) (by omega) inv1 (by kernel_rfl) (by kernel_rfl) rfl (fun X hX => ?_) fun inv2 => ?_
      · obtain ⟨x0, x1, x2, x3⟩ := hX; go_simp
      simp only [Act.put, List.setIfInBounds_toArray, List.set_cons_zero, List.set_cons_succ]
      refine sched_take hH (i := 2) (v := (.int .i64 (k : Int))) (drop_get rfl) (by omega) inv2 (by kernel_rfl) (by kernel_rfl) rfl (fun X hX => ?_) fun inv3 => ?_
      · obtain ⟨x0, x1, x2, x3⟩ := hX; go_simp
      simp only [Act.put, List.setIfInBounds_toArray, List.set_cons_zero, List.set_cons_succ]
      refine sched_take hH (i := 3) (v := (.pointer (some ⟨b, o + k * 2, none⟩))) (drop_get rfl) (by omega) inv3 (by kernel_rfl) (by kernel_rfl) rfl (fun X hX => ?_) fun inv4 => ?_
      · obtain ⟨x0, x1, x2, x3⟩ := hX; go_simp
      simp only [Act.put, List.setIfInBounds_toArray, List.set_cons_zero, List.set_cons_succ]
      refine sched_take hH (i := 4) (v := (.pointer (some ⟨b, o + k * 2, none⟩))) (drop_get rfl) (by omega) inv4 (by kernel_rfl) (by kernel_rfl) rfl (fun X hX => ?_) fun inv5 => ?_
      · obtain ⟨x0, x1, x2, x3⟩ := hX; go_simp
      simp only [Act.put, List.setIfInBounds_toArray, List.set_cons_zero, List.set_cons_succ]
      refine sched_take hH (i := 5) (v := (.int .i64 px)) (drop_get rfl) (by omega) inv5 (by kernel_rfl) (by kernel_rfl) rfl (fun X hX => ?_) fun inv6 => ?_
      · obtain ⟨x0, x1, x2, x3⟩ := hX; go_simp
      simp only [Act.put, List.setIfInBounds_toArray, List.set_cons_zero, List.set_cons_succ]
      refine sched_take hH (i := 6) (v := (.pointer (some ⟨w.heap.size, 0, none⟩))) (drop_get rfl) (by omega) inv6 (by kernel_rfl) (by kernel_rfl) rfl (fun X hX => ?_) fun inv7 => ?_
      · obtain ⟨x0, x1, x2, x3⟩ := hX; go_simp
      simp only [Act.put, List.setIfInBounds_toArray, List.set_cons_zero, List.set_cons_succ]
      refine sched_take hH (i := 7) (v := (.int .i64 bx)) (drop_get rfl) (by omega) inv7 (by kernel_rfl) (by kernel_rfl) rfl (fun X hX => ?_) fun inv8 => ?_
      · obtain ⟨x0, x1, x2, x3⟩ := hX; go_simp
      simp only [Act.put, List.setIfInBounds_toArray, List.set_cons_zero, List.set_cons_succ]
      refine sched_take hH (i := 8) (v := (.int .i64 (px + bx))) (drop_get rfl) (by omega) inv8 (by kernel_rfl) (by kernel_rfl) rfl (fun X hX => ?_) fun inv9 => ?_
      · obtain ⟨x0, x1, x2, x3⟩ := hX; go_simp
      simp only [Act.put, List.setIfInBounds_toArray, List.set_cons_zero, List.set_cons_succ]
      refine sched_take hH (i := 9) (v := (.slice (some ⟨b, o, none⟩) l.length (l.length + cap))) (drop_get rfl) (by omega) inv9 (by kernel_rfl) (by kernel_rfl) rfl (fun X hX => ?_) fun inv10 => ?_
      · obtain ⟨x0, x1, x2, x3⟩ := hX; go_simp
      simp only [Act.put, List.setIfInBounds_toArray, List.set_cons_zero, List.set_cons_succ]
      refine sched_take hH (i := 10) (v := (.int .i64 (k : Int))) (drop_get rfl) (by omega) inv10 (by kernel_rfl) (by kernel_rfl) rfl (fun X hX => ?_) fun inv11 => ?_
      · obtain ⟨x0, x1, x2, x3⟩ := hX; go_simp
      simp only [Act.put, List.setIfInBounds_toArray, List.set_cons_zero, List.set_cons_succ]
      refine sched_take hH (i := 11) (v := (.pointer (some ⟨b, o + k * 2, none⟩))) (drop_get rfl) (by omega) inv11 (by kernel_rfl) (by kernel_rfl) rfl (fun X hX => ?_) fun inv12 => ?_
      · obtain ⟨x0, x1, x2, x3⟩ := hX; go_simp
      simp only [Act.put, List.setIfInBounds_toArray, List.set_cons_zero, List.set_cons_succ]
      refine sched_take hH (i := 12) (v := (.pointer (some ⟨b, o + k * 2 + 1, none⟩))) (drop_get rfl) (by omega) inv12 (by kernel_rfl) (by kernel_rfl) rfl (fun X hX => ?_) fun inv13 => ?_
      · obtain ⟨x0, x1, x2, x3⟩ := hX; go_simp
      simp only [Act.put, List.setIfInBounds_toArray, List.set_cons_zero, List.set_cons_succ]
      refine sched_take hH (i := 13) (v := (.int .i64 py)) (drop_get rfl) (by omega) inv13 (by kernel_rfl) (by kernel_rfl) rfl (fun X hX => ?_) fun inv14 => ?_
      · obtain ⟨x0, x1, x2, x3⟩ := hX; go_simp
      simp only [Act.put, List.setIfInBounds_toArray, List.set_cons_zero, List.set_cons_succ]
      refine sched_take hH (i := 14) (v := (.pointer (some ⟨w.heap.size, 1, none⟩))) (drop_get rfl) (by omega) inv14 (by kernel_rfl) (by kernel_rfl) rfl (fun X hX => ?_) fun inv15 => ?_
      · obtain ⟨x0, x1, x2, x3⟩ := hX; go_simp
      simp only [Act.put, List.setIfInBounds_toArray, List.set_cons_zero, List.set_cons_succ]
      refine sched_take hH (i := 15) (v := (.int .i64 by')) (drop_get rfl) (by omega) inv15 (by kernel_rfl) (by kernel_rfl) rfl (fun X hX => ?_) fun inv16 => ?_
      · obtain ⟨x0, x1, x2, x3⟩ := hX; go_simp
      simp only [Act.put, List.setIfInBounds_toArray, List.set_cons_zero, List.set_cons_succ]
      refine sched_take hH (i := 16) (v := (.int .i64 (py + by'))) (drop_get rfl) (by omega) inv16 (by kernel_rfl) (by kernel_rfl) rfl (fun X hX => ?_) fun inv17 => ?_
      · obtain ⟨x0, x1, x2, x3⟩ := hX; go_simp
      simp only [Act.put, List.setIfInBounds_toArray, List.set_cons_zero, List.set_cons_succ]
      refine sched_take hH (i := 17) (v := (.agg #[.int .i64 (px + bx), .int .i64 (py + by')])) (drop_get rfl) (by omega) inv17 (by kernel_rfl) (by kernel_rfl) rfl (fun X hX => ?_) fun inv18 => ?_
      · obtain ⟨x0, x1, x2, x3⟩ := hX; go_simp
      simp only [Act.put, List.setIfInBounds_toArray, List.set_cons_zero, List.set_cons_succ]
      have D : Below wr.heap.size wr wr.drew := Below.drew (Below.refl _ _)
      have R0 := prow_below HR.out D
      have B0 := HB.out.trans (D.mono (by omega))
      have S0 : wr.drew.cell? ⟨b, o + k * 2, none⟩ = some (.int .i64 px) ∧ wr.drew.cell? ⟨b, o + k * 2 + 1, none⟩ = some (.int .i64 py) ∧ wr.drew.cell? ⟨w.heap.size, 0, none⟩ = some (.int .i64 bx) ∧ wr.drew.cell? ⟨w.heap.size, 1, none⟩ = some (.int .i64 by') := C01.out
      have z0 : w.heap.size + 1 ≤ wr.drew.heap.size := hzB
      have zb : b < wr.drew.heap.size := hbz
      generalize wr.drew = X0 at R0 B0 S0 z0 zb ⊢
      clear inv0 inv1 inv2 inv3 inv4 inv5 inv6 inv7 inv8 inv9 inv10 inv11 inv12 inv13 inv14 inv15 inv16 inv17 inv18 hH D
      refine sched_all (rs := [18]) (by kernel_rfl) (by simp) S0 (by simp) (fun i hi' => ?_)
      simp only [List.mem_cons, List.not_mem_nil, or_false] at hi'
      subst hi'
      refine okOp_run (drop_get rfl) rfl (v := .slice (some ⟨X0.heap.size, 0, none⟩) 1 1) (w' := X0.alloc (.cells #[.int .i64 (px + bx), .int .i64 (py + by')] 44)) (by go_simp) ?_
      simp only [Act.put, List.setIfInBounds_toArray, List.set_cons_zero, List.set_cons_succ]
      have A0 := (Below.refl X0.heap.size X0).alloc (Nat.le_refl _) (.cells #[.int .i64 (px + bx), .int .i64 (py + by')] 44)
      have cN := pt_new X0 (px + bx) (py + by')
      have R1 := prow_below R0 A0
      have B1 := B0.trans (A0.mono (by omega))
      have S1 := And.intro ((A0.cell (p := ⟨b, o + k * 2, none⟩) zb).trans S0.1) (And.intro ((A0.cell (p := ⟨b, o + k * 2 + 1, none⟩) zb).trans S0.2.1) (And.intro ((A0.cell (p := ⟨w.heap.size, 0, none⟩) z0).trans S0.2.2.1) ((A0.cell (p := ⟨w.heap.size, 1, none⟩) z0).trans S0.2.2.2)))
      have z1 := A0.size
      generalize X0.alloc (.cells #[.int .i64 (px + bx), .int .i64 (py + by')] 44) = X1 at *
      refine sched_all (rs := [19]) (by kernel_rfl) (by simp) S1 (by simp) (fun i hi' => ?_)
      simp only [List.mem_cons, List.not_mem_nil, or_false] at hi'
      subst hi'
      refine okOp_append (drop_get rfl) rfl (.tmp 13) (.tmp 31) 22 rfl (w.heap.size + 1) 44 i0 (.agg #[.int .i64 0, .int .i64 0]) 2 16 Tryz.underlying22 hi hz0' hz1' hz2' rfl (by decide) _ _ _ rfl R1 ⟨X0.heap.size, 0, none⟩ 1 1 [.int .i64 (px + bx), .int .i64 (py + by')] rfl rfl cN (by simp [Value.oneCell']) (by unfold maxLen; omega) (by omega) (by omega) ?_
      intro v' X2 hown' hgrow _
      simp only [Act.put, List.setIfInBounds_toArray, List.set_cons_zero, List.set_cons_succ]
      have B2 : Below (w.heap.size + 1) X1 X2 := (Below.refl _ X1).grown hgrow (by omega) (fun j ej => (R1.lt j ej).1)
      refine sched_done (by kernel_rfl) ⟨(B2.cell (p := ⟨b, o + k * 2, none⟩) (Nat.lt_succ_of_lt hb)).trans S1.1, (B2.cell (p := ⟨b, o + k * 2 + 1, none⟩) (Nat.lt_succ_of_lt hb)).trans S1.2.1, (B2.cell (p := ⟨w.heap.size, 0, none⟩) (Nat.lt_succ_self _)).trans S1.2.2.1, (B2.cell (p := ⟨w.heap.size, 1, none⟩) (Nat.lt_succ_self _)).trans S1.2.2.2⟩ ?_
      simp only [List.drop_succ_cons, List.drop_zero]
      have B3 := Lib.hid (B1.trans B2)
      have O3 := Lib.hid hown'
      clear R0 R1 B0 B1 B2 S0 S1 hown' hgrow A0 cN
      gi_wp2
      go_wp2
      go_roundw
      case rel =>
        refine ⟨k + 1, by omega, by go_num, ?_, B3.out⟩
        rw [hst.out, hmv.out, ptCells_append]
        exact O3.out
      case measure => simp [intOf]; omega
    · obtain rfl : k = l.length := by omega
      have dk : decide ((l.length : Int) < (l.length : Int)) = false := by simp
      rw [List.take_length] at hrow
      have HI := Lib.hid (show wr.ownsRow w.heap.size 44 2 u5 l.length (ptCells (mvL ⟨bx, by'⟩ l)) from ⟨hrow.1, hrow.2.imp id fun ⟨g, cap, cur, h1, h2, h3⟩ => ⟨g, cap, cur, h1, by omega, h3⟩⟩)
      have HB := Lib.hid hBw
      clear hrow hB hBw
      go_wp2
      go_ret
      exact ⟨_, rfl, HI.out, HB.out⟩
end Go.Proofs.YtdpnhckbabjagaaGreat
