/- The head of the laws on package rocks: its example. -/
import Derived.Test.YtjjkmonfihomnaaRocksLaw
import Derived.Deep.CutRange
namespace Go.Proofs.Ytjjkmonfihomnaa
open Go.RowKit
attribute [local irreducible] wpQuiet

def sqC : List Pt := [⟨0, 0⟩, ⟨10, 0⟩, ⟨10, 2⟩, ⟨0, 2⟩]
def roA : List Pt := [⟨20, 0⟩]
def roB : List Pt := [⟨5, -5⟩, ⟨6, 1⟩, ⟨5, 1⟩]
theorem sq_valid : goValid sqC = true ∧ goValid roA = true ∧ goValid roB = true := by
  rw [goValid_eq, goValid_eq, goValid_eq]
  decide +kernel
theorem nil_invalid : goValid ([] : List Pt) = false := by rw [goValid_eq]; decide +kernel
theorem shared_A : sharedP sqC roA = [] := by
  have h := sq_valid
  have a : cornersP sqC roA = [] := by unfold cornersP; rw [cornersC_eq h.2.1]; decide +kernel
  have b : cornersP roA sqC = [] := by unfold cornersP; rw [cornersC_eq h.1]; decide +kernel
  have c : crossP sqC roA = [] := by decide +kernel
  unfold sharedP
  rw [a, b, c]; rfl
theorem corners_B : cornersP sqC roB = [] ∧ cornersP roB sqC = [⟨6, 1⟩, ⟨5, 1⟩] := by
  have h := sq_valid
  unfold cornersP
  rw [cornersC_eq h.2.2, cornersC_eq h.1]
  decide +kernel
theorem touch_A : touchB sqC roA = false := by
  unfold touchB; rw [shared_A]; simp
theorem touch_B : touchB sqC roB = true := by
  have h := sq_valid
  unfold touchB
  rw [h.1, h.2.2]
  unfold sharedP
  rw [corners_B.1, corners_B.2]
  simp
theorem com_B : comX sqC roB = some ⟨5, 1⟩ := by
  have e0 : comL sqC roB 0 = [] := corners_B.1
  have e1 : comL sqC roB 1 = [⟨6, 1⟩, ⟨5, 1⟩] := corners_B.2
  rw [comX_at (k := 1) (by omega) (fun j hj => by obtain rfl : j = 0 := by omega
                                                  rw [e0]; rfl) (by rw [e1]; decide)]
  rw [e1]
  decide +kernel
theorem com_A : comX sqC roA = none := comX_apart (by rw [shared_A]; rfl)
theorem head_first : firI sqC [roA, roB] = 1 ∧ firB sqC [roA, roB] = true ∧ firE sqC [roA, roB] = 0 ∧ firB sqC [roA] = false ∧ firE sqC [roA] = 0 ∧ firE [] [roA, roB] = 1 := by
  have h := sq_valid
  have hok : okRocks sqC [roA, roB] = true := by
    unfold okRocks
    rw [h.1, Bool.true_and]
    refine decide_eq_true fun j hj => ?_
    match j, hj with
    | 0, _ => exact h.2.1
    | 1, _ => exact h.2.2
  have hh : hitTo sqC [roA, roB] 2 = some 1 := by
    have r0 : rk [roA, roB] 0 = roA := rfl
    have r1 : rk [roA, roB] 1 = roB := rfl
    simp [hitTo, r0, r1, touch_A, touch_B]
  have f1 := first_one h.1 h.2.1
  have hno : okRocks [] [roA, roB] = false := by unfold okRocks; rw [nil_invalid]; rfl
  refine ⟨?_, ?_, ?_, by rw [f1.1, touch_A], f1.2, ?_⟩
  · unfold firI; simp [hok, hh, natO]
  · unfold firB; simp [hok, hh]
  · unfold firE; simp [hok]
  · unfold firE; simp [hno]
theorem head_hit : (hitX sqC roB = 5 ∧ hitY sqC roB = 1 ∧ hitB sqC roB = true ∧ hitE sqC roB = 0) ∧ (hitB sqC roA = false ∧ hitE sqC roA = 0) ∧ hitE sqC [] = 1 := by
  have h := sq_valid
  refine ⟨⟨?_, ?_, ?_, ?_⟩, ⟨?_, ?_⟩, ?_⟩
  · unfold hitX; rw [h.1, h.2.2, com_B]; rfl
  · unfold hitY; rw [h.1, h.2.2, com_B]; rfl
  · unfold hitB; rw [h.1, h.2.2, com_B]; rfl
  · unfold hitE; rw [h.1, h.2.2, com_B]; rfl
  · unfold hitB; rw [com_A]; simp
  · unfold hitE; rw [h.1, h.2.1, com_A, touch_A]; rfl
  · unfold hitE; rw [nil_invalid]; simp


theorem PtsAt.has {W : World} {B : Nat} {cs : Array Value} {t : TypeId} {l : List Pt} {cap : Nat} (h : Has W B cs t) (hl : l.length ≤ 70368744177663) (hcs : cs = (ptCells l).toArray) :
    PtsAt W.heap.size W (.slice (some ⟨B, 0, none⟩) l.length (l.length + cap)) l := by
  subst hcs
  refine ⟨hl, some ⟨B, 0, none⟩, cap, rfl, .inr ⟨B, 0, rfl, h.lt, fun j hj => ?_⟩⟩
  obtain ⟨f0, f1⟩ := ptCells_get l j hj
  rw [Nat.zero_add]
  exact ⟨h.cell (by simpa using f0), h.cell (by simpa using f1)⟩
theorem Has.alloc {W : World} {B : Nat} {cs : Array Value} {t : TypeId} (h : Has W B cs t) (o : Obj) : Has (W.alloc o) B cs t :=
  h.below ((Below.refl W.heap.size W).alloc (Nat.le_refl _) o) h.lt
theorem RocksAt.has {W : World} {B : Nat} {cs : Array Value} {t : TypeId} {ls : List (List Pt)} {cap : Nat} (h : Has W B cs t) (hl : ls.length ≤ 70368744177663)
    (hcs : ∀ j, j < ls.length → ∃ u, cs[j]? = some u ∧ PtsAt W.heap.size W u (rk ls j)) :
    RocksAt W.heap.size W (.slice (some ⟨B, 0, none⟩) ls.length (ls.length + cap)) ls := by
  refine ⟨hl, some ⟨B, 0, none⟩, cap, rfl, .inr ⟨B, 0, rfl, h.lt, fun j hj => ?_⟩⟩
  obtain ⟨u, hu, hp⟩ := hcs j hj
  exact ⟨u, h.cell (by rw [Nat.zero_add]; exact hu), hp⟩

set_option linter.unusedSimpArgs false in
set_option maxRecDepth 8000 in
set_option maxHeartbeats 3000000 in
theorem head33_any (w : World) : Calls Try.prog 12 #[] w fun e w' => e = .returned (.bool true) ∧ Below w.heap.size w w' := by
  go_enter Try.func12, Try.ntmps12
  go_upto_region 3 with fail
  obtain ⟨W, hW⟩ : ∃ W, W = ((((w.alloc (.cells #[.int .i64 0, .int .i64 0, .int .i64 10, .int .i64 0, .int .i64 10, .int .i64 2, .int .i64 0, .int .i64 2] 31)).alloc
    (.cells #[.int .i64 20, .int .i64 0] 31)).alloc (.cells #[.int .i64 5, .int .i64 (-5), .int .i64 6, .int .i64 1, .int .i64 5, .int .i64 1] 31)).alloc
    (.cells #[.slice (some ⟨w.heap.size + 1, 0, none⟩) 1 1, .slice (some ⟨w.heap.size + 1 + 1, 0, none⟩) 3 3] 22)) := ⟨_, rfl⟩
  have B0 : Below w.heap.size w W := by rw [hW]; repeat (first | exact Below.refl _ _ | assumption | apply Below.drew | refine Below.setCell ?_ (by first | omega | (simp; done) | (simp; omega)) _ | refine Below.alloc ?_ (by first | omega | (simp; done) | (simp; omega)) _ | refine Below.call (by assumption) ?_ (by first | omega | (simp; done) | (simp; omega)))
  have hh := Lib.hid (show Has W w.heap.size #[.int .i64 0, .int .i64 0, .int .i64 10, .int .i64 0, .int .i64 10, .int .i64 2, .int .i64 0, .int .i64 2] 31 ∧
      Has W (w.heap.size + 1) #[.int .i64 20, .int .i64 0] 31 ∧ Has W (w.heap.size + 1 + 1) #[.int .i64 5, .int .i64 (-5), .int .i64 6, .int .i64 1, .int .i64 5, .int .i64 1] 31 ∧
      Has W (w.heap.size + 1 + 1 + 1) #[.slice (some ⟨w.heap.size + 1, 0, none⟩) 1 1, .slice (some ⟨w.heap.size + 1 + 1, 0, none⟩) 3 3] 22 by
    rw [hW]
    refine ⟨(((Has.new w _ _).alloc _).alloc _).alloc _, ?_, ?_, ?_⟩
    · have := Has.new (w.alloc (.cells #[.int .i64 0, .int .i64 0, .int .i64 10, .int .i64 0, .int .i64 10, .int .i64 2, .int .i64 0, .int .i64 2] 31)) #[.int .i64 20, .int .i64 0] 31
      rw [World.size_alloc] at this
      exact (this.alloc _).alloc _
    · have := Has.new ((w.alloc (.cells #[.int .i64 0, .int .i64 0, .int .i64 10, .int .i64 0, .int .i64 10, .int .i64 2, .int .i64 0, .int .i64 2] 31)).alloc
        (.cells #[.int .i64 20, .int .i64 0] 31)) #[.int .i64 5, .int .i64 (-5), .int .i64 6, .int .i64 1, .int .i64 5, .int .i64 1] 31
      rw [World.size_alloc, World.size_alloc] at this
      exact this.alloc _
    · have := Has.new (((w.alloc (.cells #[.int .i64 0, .int .i64 0, .int .i64 10, .int .i64 0, .int .i64 10, .int .i64 2, .int .i64 0, .int .i64 2] 31)).alloc
        (.cells #[.int .i64 20, .int .i64 0] 31)).alloc (.cells #[.int .i64 5, .int .i64 (-5), .int .i64 6, .int .i64 1, .int .i64 5, .int .i64 1] 31))
         #[.slice (some ⟨w.heap.size + 1, 0, none⟩) 1 1, .slice (some ⟨w.heap.size + 1 + 1, 0, none⟩) 3 3] 22
      rw [World.size_alloc, World.size_alloc, World.size_alloc] at this
      exact this)
  have hz : W.heap.size = w.heap.size + 1 + 1 + 1 + 1 := by rw [hW]; simp
  have B0' := Lib.hid B0
  rw [← hW]
  clear hW B0
  obtain ⟨h0, h1, h2, h3⟩ := hh.out
  have pC := Lib.hid (PtsAt.has (l := sqC) (cap := 0) h0 (by decide) rfl)
  have pA := Lib.hid (PtsAt.has (l := roA) (cap := 0) h1 (by decide) rfl)
  have pB := Lib.hid (PtsAt.has (l := roB) (cap := 0) h2 (by decide) rfl)
  have pR := Lib.hid (RocksAt.has (ls := [roA, roB]) (cap := 0) h3 (by decide) fun j hj => by
    match j, hj with
    | 0, _ => exact ⟨_, rfl, pA.out⟩
    | 1, _ => exact ⟨_, rfl, pB.out⟩)
  have pR1 := Lib.hid (RocksAt.has (ls := [roA]) (cap := 1) h3 (by decide) fun j hj => by
    match j, hj with
    | 0, _ => exact ⟨_, rfl, pA.out⟩)
  have H3 := Lib.hid h3
  obtain ⟨e1, e2, e3, e4, e5, e6⟩ := head_first
  obtain ⟨⟨g1, g2, g3, g4⟩, ⟨g5, g6⟩, g7⟩ := head_hit
  have f1 := Lib.hid (fun W' (B : Below W.heap.size W W') => first_any _ _ sqC [roA, roB] W' ((pC.out.below B).mono B.size) ((pR.out.below B).mono B.size))
  have f2 := Lib.hid (fun W' (B : Below W.heap.size W W') => hit_any _ _ sqC roB W' ((pC.out.below B).mono B.size) ((pB.out.below B).mono B.size))
  have f3 := Lib.hid (fun W' (B : Below W.heap.size W W') => first_any _ _ sqC [roA] W' ((pC.out.below B).mono B.size) ((pR1.out.below B).mono B.size))
  have f4 := Lib.hid (fun W' (B : Below W.heap.size W W') => hit_any _ _ sqC roA W' ((pC.out.below B).mono B.size) ((pA.out.below B).mono B.size))
  have f5 := Lib.hid (fun W' (B : Below W.heap.size W W') => first_any _ _ [] [roA, roB] W' (PtsAt.nil _ _) ((pR.out.below B).mono B.size))
  have f6 := Lib.hid (fun W' (B : Below W.heap.size W W') => hit_any _ _ sqC [] W' ((pC.out.below B).mono B.size) (PtsAt.nil _ _))
  rw [e1, e2, e3] at f1
  rw [g1, g2, g3, g4] at f2
  rw [e4, e5] at f3
  rw [g5, g6] at f4
  rw [e6] at f5
  rw [g7] at f6
  clear h0 h1 h2 h3 e1 e2 e3 e4 e5 e6 g1 g2 g3 g4 g5 g6 g7 hh
  have hcell := Lib.hid (fun W' (B : Below W.heap.size W W') => (show W'.cell? ⟨w.heap.size + 1 + 1 + 1, 0, none⟩ = some (.slice (some ⟨w.heap.size + 1, 0, none⟩) 1 1) ∧ W'.cell? ⟨w.heap.size + 1 + 1 + 1, 1, none⟩ = some (.slice (some ⟨w.heap.size + 1 + 1, 0, none⟩) 3 3) from
    ⟨(H3.out.below B (by omega)).cell (i := 0) rfl, (H3.out.below B (by omega)).cell (i := 1) rfl⟩))
  go_wp2_with fail
  refine (f1.out _ (Below.refl _ _)).mono ?_
  rintro e w1 ⟨rfl, b1⟩
  have B1 := Lib.hid b1
  obtain ⟨c0, c1⟩ := hcell.out _ b1
  clear b1
  go_wp2_with fail
  refine (f2.out _ B1.out).mono ?_
  rintro e w2 ⟨rfl, b2⟩
  have B2 := Lib.hid (B1.out.trans (b2.mono B1.out.size))
  clear c0 c1 b2
  obtain ⟨c0, c1⟩ := hcell.out _ B2.out
  go_wp2_with fail
  clear c0 c1
  have A2 := (Below.refl w2.heap.size w2).alloc (Nat.le_refl _) (.cells #[.int .i64 5, .int .i64 1] 31)
  have B3 := Lib.hid (B2.out.trans (A2.mono B2.out.size))
  have N3 := Lib.hid (Has.new w2 #[.int .i64 5, .int .i64 1] 31)
  have hs3 : w2.heap.size < (w2.alloc (.cells #[.int .i64 5, .int .i64 1] 31)).heap.size := by simp
  clear A2
  refine (f3.out _ B3.out).mono ?_
  rintro e w4 ⟨rfl, b4⟩
  have B4 := Lib.hid (B3.out.trans (b4.mono B3.out.size))
  have N4 := Lib.hid (N3.out.below b4 hs3)
  obtain ⟨c0, c1⟩ := hcell.out _ B4.out
  clear b4
  go_wp2_with fail
  refine (f4.out _ B4.out).mono ?_
  rintro e w5 ⟨rfl, b5⟩
  have B5 := Lib.hid (B4.out.trans (b5.mono B4.out.size))
  have N5 := Lib.hid (N4.out.below b5 N4.out.lt)
  clear b5 c0 c1
  go_wp2_with fail
  have A5 := (Below.refl w5.heap.size w5).alloc (Nat.le_refl _) (.cells #[.int .i64 (hitX sqC roA), .int .i64 (hitY sqC roA)] 31)
  have N5' := Lib.hid (N5.out.alloc (.cells #[.int .i64 (hitX sqC roA), .int .i64 (hitY sqC roA)] 31))
  have B5' := Lib.hid (B5.out.trans (A5.mono B5.out.size))
  clear A5
  generalize hitX sqC roA = xx at *
  generalize hitY sqC roA = yy at *
  refine (f5.out _ B5'.out).mono ?_
  rintro e w6 ⟨rfl, b6⟩
  have B6 := Lib.hid (B5'.out.trans (b6.mono B5'.out.size))
  have N6 := Lib.hid (N5'.out.below b6 N5'.out.lt)
  clear b6
  go_wp2_with fail
  refine (f6.out _ B6.out).mono ?_
  rintro e w7 ⟨rfl, b7⟩
  have B7 := Lib.hid (B6.out.trans (b7.mono B6.out.size))
  have N7 := N6.out.below b7 N6.out.lt
  have A7 := (Below.refl w7.heap.size w7).alloc (Nat.le_refl _) (.cells #[.int .i64 (hitX sqC []), .int .i64 (hitY sqC [])] 31)
  have N8 := N7.alloc (.cells #[.int .i64 (hitX sqC []), .int .i64 (hitY sqC [])] 31)
  have B8 := Lib.hid (B0'.out.trans ((B7.out.trans (A7.mono B7.out.size)).mono (by omega)))
  have q0 := N8.cell (i := 0) rfl
  have q1 := N8.cell (i := 1) rfl
  clear A7 N7 N8 b7
  go_wp2_with fail
  exact bodyPost_ret (results_tmp rfl _ _ _) rfl ⟨rfl, B8.out⟩
end Go.Proofs.Ytjjkmonfihomnaa
