/- landfallref03's Around: the hull of points. -/
import Derived.Test.YtjjkmonfihomnaaNext
import Derived.Test.YtjjkmonfihomnaaOct
namespace Go.Proofs.Ytjjkmonfihomnaa
open Go.RowKit
attribute [local irreducible] wpQuiet

def lenOf : Value → Nat
  | .slice _ n _ => n
  | _ => 0
/-- a list of points' row under a greater count: the next one -/
theorem range_snoc (f : Nat → Pt) (k : Nat) : (List.range (k + 1)).map f = (List.range k).map f ++ [f k] := by simp [List.range_succ]
/-- what a round of Around sees -/
def AS (F B : Nat) (fx fy tx ty : Int) (k : Nat) (xs : List Value) (out : Value) (w wr : World) : Prop :=
  w.heap.size ≤ B ∧ B < wr.heap.size ∧ w.heap.size ≤ F ∧ F < wr.heap.size ∧ B ≠ F ∧ out.ownBlock ≠ some B ∧ Has wr F #[.int .i64 fx, .int .i64 fy] 31 ∧ Has wr B #[.int .i64 tx, .int .i64 ty] 31 ∧
  wr.ownsRow (F + 1) 31 2 out k xs ∧ Below w.heap.size w wr
theorem Has.kept {W W' : World} {B : Nat} {cs : Array Value} {t : TypeId} {row : Option Nat} (h : Has W B cs t) (hg : W.grownBy W' row) (hne : row ≠ some B) : Has W' B cs t :=
  (hg.block B h.lt (fun e => hne e.symm)).trans h
theorem row_pos {W : World} {base k size : Nat} {e : TypeId} {v : Value} {xs : List Value} (h : W.ownsRow base e size v k xs) : lenOf v = k := by
  rcases h.2 with ⟨rfl, h0⟩ | ⟨g, cap, cur, rfl, _⟩
  · exact h0.symm
  · rfl

set_option linter.unusedSimpArgs false in
set_option linter.unusedVariables false in
set_option maxRecDepth 8000 in
set_option maxHeartbeats 4000000 in
theorem around_any (v : Value) (l : List Pt) (w : World) (hp : PtsAt w.heap.size w v l) (hl : ∀ k, k < l.length → far6 (nth l k)) (hsz : l.length ≤ 1000000) :
    Calls Try.prog 128 #[v] w (PtsQ (hullP l) w) := by
  by_cases h0 : l = []
  · subst h0
    obtain ⟨a, cap, rfl⟩ := hp.len
    have e : hullP [] = [] := ((hullP_of []).none rfl)
    rw [e]
    clear e hp hl
    go_enter Try.func128, Try.ntmps128
    go_wp2
    go_ret
    exact ⟨_, rfl, PtsAt.nil _ _, Below.refl _ _⟩
  have h1 : 0 < l.length := List.length_pos_iff.2 h0
  have hm := leastP_mem (l := l) h1
  have hle := leastP_le (l := l)
  obtain ⟨N, n1, n2, n3, n4⟩ := walk_round hm hle
  have HH := Lib.hid ((hullP_eq (hull_walk hm hle n1 n3 n4)).symm)
  have hwl : ∀ k, far6 (walkP l (leastP l) k) := fun k => by
    obtain ⟨j, hj, e⟩ := mem_nth' (walk_ok hm hle k).1
    rw [← e]; exact hl j hj
  have c1 := Lib.hid (least3_any v l w hp h1)
  have c2 := Lib.hid (fun (W : World) (B : Below w.heap.size w W) (t : Pt) (ht : far6 t) => next_any v l t W ((hp.below B).mono B.size) hl ht)
  obtain ⟨a, cap, rfl⟩ := hp.len
  obtain ⟨⟨fx, fy⟩, hf⟩ : ∃ f, leastP l = f := ⟨_, rfl⟩
  rw [hf] at HH hwl c1 n3 n4
  have HW := Lib.hid hwl
  have HN := Lib.hid (And.intro n3 n4)
  have dl : ((l.length : Int) == 0) = false := by rw [beq_eq_false_iff_ne]; omega
  clear hp hl hm hle hf hwl n3 n4
  go_enter Try.func128, Try.ntmps128
  go_wp2_with fail
  refine c1.out.mono ?_
  rintro e w1 ⟨rfl, b1⟩
  have z1 := b1.size
  have f0 := Has.new w1 #[.int .i64 fx, .int .i64 fy] 31
  have A1 := (Below.refl w1.heap.size w1).alloc (Nat.le_refl _) (.cells #[.int .i64 fx, .int .i64 fy] 31)
  have sz1 : (w1.alloc (.cells #[.int .i64 fx, .int .i64 fy] 31)).heap.size = w1.heap.size + 1 := by simp
  have f1 := f0.below ((Below.refl (w1.heap.size + 1) _).alloc (by simp) (.cells #[.int .i64 fx, .int .i64 fy] 31)) (by omega)
  have r1 : ((w1.alloc (.cells #[.int .i64 fx, .int .i64 fy] 31)).alloc (.cells #[.int .i64 fx, .int .i64 fy] 31)).ownsRow (w1.heap.size + 1) 31 2 (.slice (some ⟨w1.heap.size + 1, 0, none⟩) 1 1) 1 [.int .i64 fx, .int .i64 fy] := by
    have := World.ownsRow_lit (base := w1.heap.size + 1) (e := 31) (size := 2) (w1.alloc (.cells #[.int .i64 fx, .int .i64 fy] 31)) #[.int .i64 fx, .int .i64 fy] 1 (by simp) (by unfold maxLen; omega) rfl
    rwa [sz1] at this
  have B2 := (b1.trans (A1.mono z1)).trans (((Below.refl _ (w1.alloc (.cells #[.int .i64 fx, .int .i64 fy] 31))).alloc (Nat.le_refl _) (.cells #[.int .i64 fx, .int .i64 fy] 31)).mono (by rw [sz1]; omega) : Below w.heap.size _ _)
  have c0 := f0.cell (i := 0) rfl
  have c0' := f0.cell (i := 1) rfl
  have c3 := f1.cell (i := 0) rfl
  have c4 := f1.cell (i := 1) rfl
  have F1 := Lib.hid (And.intro f1 (And.intro r1 B2))
  have zF : w.heap.size ≤ w1.heap.size := z1
  have zT : w1.heap.size + 1 < ((w1.alloc (.cells #[.int .i64 fx, .int .i64 fy] 31)).alloc (.cells #[.int .i64 fx, .int .i64 fy] 31)).heap.size := by simp
  clear b1 A1 f0 f1 r1 B2 sz1
  go_wp2_with fail
  generalize (w1.alloc (.cells #[.int .i64 fx, .int .i64 fy] 31)).alloc (.cells #[.int .i64 fx, .int .i64 fy] 31) = W2 at *
  have d2 := c2.out W2 F1.out.2.2 ⟨fx, fy⟩ (HW.out 0)
  refine d2.mono ?_
  rintro e w3 ⟨rfl, b3⟩
  have HW1 : Hid (walkP l ⟨fx, fy⟩ 1 = nextP l ⟨fx, fy⟩) := rfl
  obtain ⟨⟨ux, uy⟩, hu⟩ : ∃ u, nextP l ⟨fx, fy⟩ = u := ⟨_, rfl⟩
  rw [hu] at HW1
  simp only [hu]
  have A4 := (Below.refl w3.heap.size w3).alloc (Nat.le_refl _) (.cells #[.int .i64 ux, .int .i64 uy] 31)
  have G4 := Has.new w3 #[.int .i64 ux, .int .i64 uy] 31
  have Z3 := b3.size
  have S4 : Hid (AS w1.heap.size w3.heap.size fx fy ux uy 1 [.int .i64 fx, .int .i64 fy] (.slice (some ⟨w1.heap.size + 1, 0, none⟩) 1 1) w (w3.alloc (.cells #[.int .i64 ux, .int .i64 uy] 31))) := by
    obtain ⟨f1, r1, B2⟩ := F1.out
    refine ⟨by omega, by simp, zF, by simp; omega, by omega, ?_, ?_, G4, prow_below (prow_below r1 b3) A4, B2.trans ((b3.mono (by omega)).trans (A4.mono (by omega)))⟩
    · simp only [Value.ownBlock, ne_eq, Option.some.injEq]; omega
    · exact (f1.below b3 (by omega)).below A4 (by omega)
  clear c0 c0' c3 c4 F1 d2 b3 hu A4 G4 c1
  go_wp2
  go_loopw [4, 5] (fun out xp wr => ∃ k B : Nat, 1 ≤ k ∧ k ≤ N ∧ xp = .pointer (some ⟨B, 0, none⟩) ∧ AS w1.heap.size B fx fy (walkP l ⟨fx, fy⟩ k).x (walkP l ⟨fx, fy⟩ k).y k (ptCells ((List.range k).map (walkP l ⟨fx, fy⟩))) out w wr) (fun out _ _ => N - lenOf out)
  case atStart =>
    refine ⟨1, w3.heap.size, by omega, n1, rfl, ?_⟩
    rw [HW1.out]
    exact S4.out
  case round =>
    obtain ⟨k, B, hk1, hkN, rfl, hS⟩ := hrel
    obtain ⟨s1, s2, s3, s4, s5, s6, g1, g2, hrow, hB⟩ := hS
    have hwk := HW.out k
    have HWk : Hid (walkP l ⟨fx, fy⟩ (k + 1) = nextP l (walkP l ⟨fx, fy⟩ k)) := rfl
    have hrs := range_snoc (walkP l ⟨fx, fy⟩) k
    have hfin : walkP l ⟨fx, fy⟩ k = ⟨fx, fy⟩ → k = N := fun e => by
      rcases Nat.lt_or_ge k N with h | h
      · exact absurd e (HN.out.2 k hk1 h)
      · omega
    have hfin2 : k = N → walkP l ⟨fx, fy⟩ k = ⟨fx, fy⟩ := fun e => by rw [e]; exact HN.out.1
    obtain ⟨⟨tx, ty⟩, ht⟩ : ∃ t, walkP l ⟨fx, fy⟩ k = t := ⟨_, rfl⟩
    rw [ht] at hwk HWk hrs g2 hfin hfin2
    simp only at g2
    clear ht
    have x0 := g1.cell (i := 0) rfl
    have x1 := g1.cell (i := 1) rfl
    have y0 := g2.cell (i := 0) rfl
    have y1 := g2.cell (i := 1) rfl
    have hlen := row_pos hrow
    have HG := Lib.hid (And.intro g1 (And.intro g2 (And.intro hrow (And.intro hB s6))))
    have HRS := Lib.hid hrs
    have HFI := Lib.hid hwk
    clear g1 g2 hrow hB s6 hrs hwk
    rcases (show (tx = fx ∧ ty = fy) ∨ (tx = fx ∧ ¬ ty = fy) ∨ ¬ tx = fx by omega) with ⟨e1, e2⟩ | hne
    · obtain rfl := e1.symm
      obtain rfl := e2.symm
      have hkn := hfin rfl
      clear hfin hfin2
      go_wp2
      go_ret
      refine ⟨_, rfl, ?_, HG.out.2.2.2.1⟩
      rw [HH.out, ← hkn]
      exact PtsAt.own (HG.out.2.2.1) (by simp; omega)
    · have hkn : k < N := by
        rcases Nat.lt_or_ge k N with h | h
        · exact h
        · have := hfin2 (by omega)
          simp only [Pt.mk.injEq] at this
          omega
      clear hfin hfin2
      obtain ⟨i0, hi, hz0', hz1', hz2'⟩ := info_parts ptInfo
      rcases hne with ⟨e1, hne⟩ | hne
      · obtain rfl := e1.symm
        go_wp2_with (at_builtin; refine wpList_append_own _ rfl _ _ 22 rfl (w1.heap.size + 1) 31 i0 (.agg #[.int .i64 0, .int .i64 0]) 2 16 Try.underlying22 hi hz0' hz1' hz2' rfl (by decide) _ _ _ rfl (HG.out.2.2.1.alloc _) ⟨wr.heap.size, 0, none⟩ 1 1 [.int .i64 fx, .int .i64 ty] rfl rfl (pt_new _ _ _) (by simp [Value.oneCell']) (by unfold maxLen; omega) (by omega) (by simp; omega) ?_; intro v' w4 hown' hgrow _; have G2 := ((HG.out.2.1.below ((Below.refl wr.heap.size wr).alloc (Nat.le_refl _) (.cells #[.int .i64 fx, .int .i64 ty] 31)) s2).kept hgrow HG.out.2.2.2.2); have m0 := G2.cell (i := 0) rfl; have m1 := G2.cell (i := 1) rfl; have n0 := (Has.new w4 #[.int .i64 fx, .int .i64 ty] 31).cell (i := 0) rfl; have n1 := (Has.new w4 #[.int .i64 fx, .int .i64 ty] 31).cell (i := 1) rfl; clear G2)
        obtain ⟨g1, g2, hrow, hB, s6⟩ := HG.out
        have hA := (Below.refl wr.heap.size wr).alloc (Nat.le_refl _) (.cells #[.int .i64 fx, .int .i64 ty] 31)
        have hlt := hrow.lt
        have hA' : (wr.alloc (.cells #[.int .i64 fx, .int .i64 ty] 31)).heap.size = wr.heap.size + 1 := by simp
        have hz4 := hgrow.size
        have hb4 : Below w.heap.size w w4 := hB.trans (((hA.mono hB.size)).grown hgrow (by omega) (fun j ej => by have := (hlt j ej).1; omega))
        have G1 := (g1.below hA s4).kept hgrow (fun e => by have := (hlt _ e).1; omega)
        have A5 := (Below.refl w4.heap.size w4).alloc (Nat.le_refl _) (.cells #[.int .i64 fx, .int .i64 ty] 31)
        have b5 := hb4.trans (A5.mono hb4.size)
        have d5 := c2.out _ b5 ⟨fx, ty⟩ HFI.out
        refine d5.mono ?_
        rintro e w6 ⟨rfl, b6⟩
        obtain ⟨⟨ux', uy'⟩, hu⟩ : ∃ u, nextP l ⟨fx, ty⟩ = u := ⟨_, rfl⟩
        rw [hu] at HWk
        simp only [hu]
        have N5 := (Has.new w4 #[.int .i64 fx, .int .i64 ty] 31)
        have z5 : (w4.alloc (.cells #[.int .i64 fx, .int .i64 ty] 31)).heap.size = w4.heap.size + 1 := by simp
        have N6 := N5.below b6 (by omega)
        have p0 := N6.cell (i := 0) rfl
        have p1 := N6.cell (i := 1) rfl
        have q0 := cells_free N6 0
        have q1 := cells_free N6 1
        have G6 := (G1.below A5 (by omega)).below b6 (by omega)
        have O6 := prow_below (prow_below hown' A5) b6
        have P6 := (N6.set 0 (.int .i64 ux')).set 1 (.int .i64 uy')
        have hv' := hown'.lt
        have z6 := b6.size
        have B6 := b5.trans (b6.mono b5.size)
        have HZ : Hid (AS w1.heap.size w4.heap.size fx fy ux' uy' (k + 1) (ptCells ((List.range (k + 1)).map (walkP l ⟨fx, fy⟩))) v' w ((w6.setCell ⟨w4.heap.size, 0, none⟩ (.int .i64 ux')).setCell ⟨w4.heap.size, 1, none⟩ (.int .i64 uy'))) := by
          have hz := hb4.size
          have sz : ((w6.setCell ⟨w4.heap.size, 0, none⟩ (.int .i64 ux')).setCell ⟨w4.heap.size, 1, none⟩ (.int .i64 uy')).heap.size = w6.heap.size := by simp [World.setCell]
          refine ⟨hz, by omega, s3, by omega, by omega, fun e => ?_, (G6.other _ _ (by show w1.heap.size ≠ w4.heap.size; omega)).other _ _ (by show w1.heap.size ≠ w4.heap.size; omega), P6, ?_, (B6.setCell (p := ⟨w4.heap.size, 0, none⟩) (by simp; omega) (.int .i64 ux')).setCell (p := ⟨w4.heap.size, 1, none⟩) (by simp; omega) (.int .i64 uy')⟩
          · have := (hv' _ e).2; omega
          · rw [HRS.out, ptCells_append]
            refine prow_block O6 fun g hg => ?_
            have := (hv' g hg).2
            rw [Below.heap_setCell _ _ _ _ (by show g ≠ w4.heap.size; omega), Below.heap_setCell _ _ _ _ (by show g ≠ w4.heap.size; omega)]
        have hl6 := row_pos hown'
        clear g1 g2 hrow hB hA hb4 G1 A5 b5 d5 b6 hu N5 N6 G6 O6 P6 B6 hown' hgrow m0 m1 n0 n1 hlt hv' x0 x1 y0 y1
        go_wp2
        go_roundw
        case rel =>
          refine ⟨k + 1, w4.heap.size, by omega, by omega, rfl, ?_⟩
          rw [HWk.out]
          exact HZ.out
        case measure => omega
      · go_wp2_with (at_builtin; refine wpList_append_own _ rfl _ _ 22 rfl (w1.heap.size + 1) 31 i0 (.agg #[.int .i64 0, .int .i64 0]) 2 16 Try.underlying22 hi hz0' hz1' hz2' rfl (by decide) _ _ _ rfl (HG.out.2.2.1.alloc _) ⟨wr.heap.size, 0, none⟩ 1 1 [.int .i64 tx, .int .i64 ty] rfl rfl (pt_new _ _ _) (by simp [Value.oneCell']) (by unfold maxLen; omega) (by omega) (by simp; omega) ?_; intro v' w4 hown' hgrow _; have G2 := ((HG.out.2.1.below ((Below.refl wr.heap.size wr).alloc (Nat.le_refl _) (.cells #[.int .i64 tx, .int .i64 ty] 31)) s2).kept hgrow HG.out.2.2.2.2); have m0 := G2.cell (i := 0) rfl; have m1 := G2.cell (i := 1) rfl; have n0 := (Has.new w4 #[.int .i64 tx, .int .i64 ty] 31).cell (i := 0) rfl; have n1 := (Has.new w4 #[.int .i64 tx, .int .i64 ty] 31).cell (i := 1) rfl; clear G2)
        obtain ⟨g1, g2, hrow, hB, s6⟩ := HG.out
        have hA := (Below.refl wr.heap.size wr).alloc (Nat.le_refl _) (.cells #[.int .i64 tx, .int .i64 ty] 31)
        have hlt := hrow.lt
        have hA' : (wr.alloc (.cells #[.int .i64 tx, .int .i64 ty] 31)).heap.size = wr.heap.size + 1 := by simp
        have hz4 := hgrow.size
        have hb4 : Below w.heap.size w w4 := hB.trans (((hA.mono hB.size)).grown hgrow (by omega) (fun j ej => by have := (hlt j ej).1; omega))
        have G1 := (g1.below hA s4).kept hgrow (fun e => by have := (hlt _ e).1; omega)
        have A5 := (Below.refl w4.heap.size w4).alloc (Nat.le_refl _) (.cells #[.int .i64 tx, .int .i64 ty] 31)
        have b5 := hb4.trans (A5.mono hb4.size)
        have d5 := c2.out _ b5 ⟨tx, ty⟩ HFI.out
        refine d5.mono ?_
        rintro e w6 ⟨rfl, b6⟩
        obtain ⟨⟨ux', uy'⟩, hu⟩ : ∃ u, nextP l ⟨tx, ty⟩ = u := ⟨_, rfl⟩
        rw [hu] at HWk
        simp only [hu]
        have N5 := (Has.new w4 #[.int .i64 tx, .int .i64 ty] 31)
        have z5 : (w4.alloc (.cells #[.int .i64 tx, .int .i64 ty] 31)).heap.size = w4.heap.size + 1 := by simp
        have N6 := N5.below b6 (by omega)
        have p0 := N6.cell (i := 0) rfl
        have p1 := N6.cell (i := 1) rfl
        have q0 := cells_free N6 0
        have q1 := cells_free N6 1
        have G6 := (G1.below A5 (by omega)).below b6 (by omega)
        have O6 := prow_below (prow_below hown' A5) b6
        have P6 := (N6.set 0 (.int .i64 ux')).set 1 (.int .i64 uy')
        have hv' := hown'.lt
        have z6 := b6.size
        have B6 := b5.trans (b6.mono b5.size)
        have HZ : Hid (AS w1.heap.size w4.heap.size fx fy ux' uy' (k + 1) (ptCells ((List.range (k + 1)).map (walkP l ⟨fx, fy⟩))) v' w ((w6.setCell ⟨w4.heap.size, 0, none⟩ (.int .i64 ux')).setCell ⟨w4.heap.size, 1, none⟩ (.int .i64 uy'))) := by
          have hz := hb4.size
          have sz : ((w6.setCell ⟨w4.heap.size, 0, none⟩ (.int .i64 ux')).setCell ⟨w4.heap.size, 1, none⟩ (.int .i64 uy')).heap.size = w6.heap.size := by simp [World.setCell]
          refine ⟨hz, by omega, s3, by omega, by omega, fun e => ?_, (G6.other _ _ (by show w1.heap.size ≠ w4.heap.size; omega)).other _ _ (by show w1.heap.size ≠ w4.heap.size; omega), P6, ?_, (B6.setCell (p := ⟨w4.heap.size, 0, none⟩) (by simp; omega) (.int .i64 ux')).setCell (p := ⟨w4.heap.size, 1, none⟩) (by simp; omega) (.int .i64 uy')⟩
          · have := (hv' _ e).2; omega
          · rw [HRS.out, ptCells_append]
            refine prow_block O6 fun g hg => ?_
            have := (hv' g hg).2
            rw [Below.heap_setCell _ _ _ _ (by show g ≠ w4.heap.size; omega), Below.heap_setCell _ _ _ _ (by show g ≠ w4.heap.size; omega)]
        have hl6 := row_pos hown'
        clear g1 g2 hrow hB hA hb4 G1 A5 b5 d5 b6 hu N5 N6 G6 O6 P6 B6 hown' hgrow m0 m1 n0 n1 hlt hv' x0 x1 y0 y1
        go_wp2
        go_roundw
        case rel =>
          refine ⟨k + 1, w4.heap.size, by omega, by omega, rfl, ?_⟩
          rw [HWk.out]
          exact HZ.out
        case measure => omega
end Go.Proofs.Ytjjkmonfihomnaa
