/- landfallref04's Common; landfallref33's First and Hit. (Printed by tools/mkrrocks.py.) -/
import Derived.Test.YtjjkmonfihomnaaMet
import Derived.Test.YtjjkmonfihomnaaRocksOne
import Derived.Test.YtjjkmonfihomnaaRocksLaw
import Derived.Test.YtjjkmonfihomnaaUsable
namespace Go.Proofs.Ytjjkmonfihomnaa
open Go.RowKit
attribute [local irreducible] wpQuiet

theorem minTo_mem' {l : List Pt} : ∀ k, k < l.length → minTo l k ∈ l
  | 0, h => nth_mem' h
  | k + 1, h => by
    simp only [minTo]
    split
    · exact nth_mem' h
    · exact minTo_mem' k (by omega)
theorem minTo_le' {l : List Pt} : ∀ k j, j ≤ k → ¬ LexLt (nth l j) (minTo l k)
  | 0, j, h => by
    obtain rfl : j = 0 := by omega
    exact fun h => h.irrefl
  | k + 1, j, h => by
    simp only [minTo]
    by_cases e : j = k + 1
    · subst e
      split
      · exact fun h => h.irrefl
      · rename_i h'; exact fun h'' => h' (cmp_lex.2 h'')
    · have ih := minTo_le' (l := l) k j (by omega)
      split
      · rename_i h'; exact fun h'' => ih (h''.trans (cmp_lex.1 h'))
      · exact ih
theorem least_unique {l : List Pt} {x y : Pt} (hx : x ∈ l) (hy : y ∈ l) (h1 : ∀ z, z ∈ l → ¬ LexLt z x) (h2 : ∀ z, z ∈ l → ¬ LexLt z y) : x = y := by
  rcases LexLt.tri x y with c | c | c
  · exact absurd c (h2 x hx)
  · exact c
  · exact absurd c (h1 y hy)
theorem leastP_min {l m : List Pt} (hm : 0 < m.length) (e : ∀ x, x ∈ l ↔ x ∈ m) : minTo m (m.length - 1) = leastP l := by
  have h1 := minTo_mem' (l := m) (m.length - 1) (by omega)
  have hl : 1 ≤ l.length := List.length_pos_of_mem ((e _).2 h1)
  refine least_unique h1 ((e _).1 (leastP_mem hl)) (fun z hz => ?_) fun z hz => leastP_le z ((e z).2 hz)
  obtain ⟨j, hj, rfl⟩ := mem_nth' hz
  exact minTo_le' _ j (by omega)
noncomputable def thirdR (l m : List Pt) : List Pt := cornersP (cornersP (crossPR l m) l) m
theorem mem_cornersP {l m : List Pt} {x : Pt} : x ∈ cornersP l m ↔ x ∈ l ∧ hasB m x = true := by
  unfold cornersP
  rw [mem_cornersTo]
  constructor
  · rintro ⟨j, hj, rfl, h⟩; exact ⟨nth_mem' hj, h⟩
  · rintro ⟨h1, h2⟩
    obtain ⟨j, hj, e⟩ := mem_nth' h1
    exact ⟨j, hj, e, by rw [← e] at h2 ⊢; exact h2⟩
theorem mem_thirdR {l m : List Pt} {x : Pt} : x ∈ thirdR l m ↔ x ∈ comL l m 2 := by
  show x ∈ thirdR l m ↔ x ∈ cornersP (cornersP (crossP l m) l) m
  unfold thirdR
  simp only [mem_cornersP, mem_crossPR]
theorem third_nil {l m : List Pt} : (thirdR l m).length = 0 ↔ (comL l m 2).length = 0 := by
  rw [List.length_eq_zero_iff, List.length_eq_zero_iff, List.eq_nil_iff_forall_not_mem, List.eq_nil_iff_forall_not_mem]
  exact ⟨fun h x hx => h x (mem_thirdR.2 hx), fun h x hx => h x (mem_thirdR.1 hx)⟩
theorem comX_r0 {l m : List Pt} (h : (cornersP l m).length ≠ 0) : comX l m = some (leastP (cornersP l m)) := by
  rw [comX_at (k := 0) (by omega) (fun j hj => by omega) (show 0 < (comL l m 0).length by show 0 < (cornersP l m).length; omega)]
  exact congrArg some (leastP_min (show 0 < (cornersP l m).length by omega) fun _ => Iff.rfl)
theorem comX_r1 {l m : List Pt} (h0 : (cornersP l m).length = 0) (h : (cornersP m l).length ≠ 0) : comX l m = some (leastP (cornersP m l)) := by
  rw [comX_at (k := 1) (by omega) (fun j hj => by obtain rfl : j = 0 := (by omega); exact h0) (show 0 < (comL l m 1).length by show 0 < (cornersP m l).length; omega)]
  exact congrArg some (leastP_min (show 0 < (cornersP m l).length by omega) fun _ => Iff.rfl)
theorem comX_r2 {l m : List Pt} (h0 : (cornersP l m).length = 0) (h1 : (cornersP m l).length = 0) (h : (thirdR l m).length ≠ 0) : comX l m = some (leastP (thirdR l m)) := by
  have h2 : 0 < (comL l m 2).length := Nat.pos_of_ne_zero fun e => h (third_nil.2 e)
  rw [comX_at (k := 2) (by omega) (fun j hj => by rcases (show j = 0 ∨ j = 1 by omega) with rfl | rfl; exact h0; exact h1) h2]
  exact congrArg some (leastP_min h2 fun x => mem_thirdR)
theorem comX_r3 {l m : List Pt} (h0 : (cornersP l m).length = 0) (h1 : (cornersP m l).length = 0) (h : (thirdR l m).length = 0) : comX l m = none :=
  comX_none fun j hj => by rcases (show j = 0 ∨ j = 1 ∨ j = 2 by omega) with rfl | rfl | rfl; exact h0; exact h1; exact third_nil.1 h
theorem comX_touch {l m : List Pt} (hl : goValid l = true) (hm : goValid m = true) (h : touchB l m = false) : comX l m = none := by
  unfold touchB at h
  rw [hl, hm] at h
  simp only [Bool.and_true, Bool.true_and, Bool.not_eq_false', decide_eq_true_eq] at h
  unfold sharedP at h
  simp only [List.length_append] at h
  refine comX_r3 (by omega) (by omega) ?_
  rw [List.length_eq_zero_iff, List.eq_nil_iff_forall_not_mem]
  intro x hx
  unfold thirdR at hx
  rw [mem_cornersP, mem_cornersP, mem_crossPR] at hx
  have := List.length_pos_of_mem hx.1.1
  omega
/-- a result variable that holds a point -/
theorem res_pt {n : Nat} {w w1 : World} {p q : Int} (x y : Int) (G : Has w1 n #[.int .i64 p, .int .i64 q] 31) (hn : w.heap.size ≤ n) (B : Below w.heap.size w w1) :
    (w1.cell? ⟨n, 0, none⟩ = some (.int .i64 p) ∧ w1.cell? ⟨n, 1, none⟩ = some (.int .i64 q) ∧ w1.frozen? ⟨n, 0, none⟩ = false ∧ w1.frozen? ⟨n, 1, none⟩ = false) ∧
      (((w1.setCell ⟨n, 0, none⟩ (.int .i64 x)).setCell ⟨n, 1, none⟩ (.int .i64 y)).cell? ⟨n, 0, none⟩ = some (.int .i64 x) ∧ ((w1.setCell ⟨n, 0, none⟩ (.int .i64 x)).setCell ⟨n, 1, none⟩ (.int .i64 y)).cell? ⟨n, 1, none⟩ = some (.int .i64 y)) ∧
      Below w.heap.size w ((w1.setCell ⟨n, 0, none⟩ (.int .i64 x)).setCell ⟨n, 1, none⟩ (.int .i64 y)) := by
  have HZ := (G.set 0 (.int .i64 x)).set 1 (.int .i64 y)
  exact ⟨⟨G.cell (i := 0) rfl, G.cell (i := 1) rfl, cells_free G 0, cells_free G 1⟩, ⟨HZ.cell (i := 0) rfl, HZ.cell (i := 1) rfl⟩, (B.setCell (p := ⟨n, 0, none⟩) (by simpa using hn) _).setCell (p := ⟨n, 1, none⟩) (by simpa using hn) _⟩


/-- the result variable, and all that lay before -/
def RS (n : Nat) (w W : World) : Prop := Has W n #[.int .i64 0, .int .i64 0] 31 ∧ Below n w W
theorem RS.below {n : Nat} {w W W' : World} (h : RS n w W) (hb : Below W.heap.size W W') : RS n w W' :=
  ⟨h.1.below hb h.1.lt, h.2.trans (hb.mono (Nat.le_of_lt h.1.lt))⟩
set_option linter.unusedSimpArgs false in
set_option maxRecDepth 8000 in
set_option maxHeartbeats 4000000 in
theorem rcommon_any (vp vq : Value) (l m : List Pt) (w : World) (hp : PtsAt w.heap.size w vp l) (hq : PtsAt w.heap.size w vq m) (hl : goValid l = true) (hm : goValid m = true) :
    Calls Try.prog 40 #[vp, vq] w fun e w' => e = .returned (.tuple #[.agg #[.int .i64 (optX (comX l m)), .int .i64 (optY (comX l m))], .bool (comX l m).isSome, .int .i64 0]) ∧ Below w.heap.size w w' := by
  have GL := goValid_true hl
  have GM := goValid_true hm
  have l64 := GL.2.1
  have m64 := GM.2.1
  have c1 := cornersP_len l m
  have c2 := cornersP_len m l
  have c3 := crossPR_len l64 m64
  have c4 := cornersP_len (crossPR l m) l
  have c5 := cornersP_len (cornersP (crossPR l m) l) m
  have pc : ∀ k, k < (crossPR l m).length → placeP (nth (crossPR l m) k) = true := fun k hk => crossP_place (fun k hk => (GM.2.2.1 k hk).1) (mem_crossPR.1 (nth_mem' hk))
  have pc2 : ∀ k, k < (cornersP (crossPR l m) l).length → placeP (nth (cornersP (crossPR l m) l) k) = true := fun k hk => by
    obtain ⟨j, hj, e⟩ := mem_nth' (mem_cornersP.1 (nth_mem' hk)).1
    rw [← e]; exact pc j hj
  have f1 := Lib.hid (fun w1 (B : Below w.heap.size w w1) => rvalid_any vp l w1 ((hp.below B).mono B.size))
  have f2 := Lib.hid (fun w1 (B : Below w.heap.size w w1) => rvalid_any vq m w1 ((hq.below B).mono B.size))
  rw [← go_eq_ref, hl] at f1
  rw [← go_eq_ref, hm] at f2
  have f3 := Lib.hid (fun w1 (B : Below w.heap.size w w1) => rcorners_any vp vq l m w1 ((hp.below B).mono B.size) ((hq.below B).mono B.size) (by omega) (fun k hk => (GL.2.2.1 k hk).1) hm)
  have f4 := Lib.hid (fun w1 (B : Below w.heap.size w w1) => rcorners_any vq vp m l w1 ((hq.below B).mono B.size) ((hp.below B).mono B.size) (by omega) (fun k hk => (GM.2.2.1 k hk).1) hl)
  have f5 := Lib.hid (fun w1 (B : Below w.heap.size w w1) => rcrossings_any vp vq l m w1 ((hp.below B).mono B.size) ((hq.below B).mono B.size) hl hm)
  have f6 := Lib.hid (fun u w1 (B : Below w.heap.size w w1) (h : PtsAt w1.heap.size w1 u (crossPR l m)) => rcorners_any u vp (crossPR l m) l w1 h ((hp.below B).mono B.size) (by omega) pc hl)
  have f7 := Lib.hid (fun u w1 (B : Below w.heap.size w w1) (h : PtsAt w1.heap.size w1 u (cornersP (crossPR l m) l)) => rcorners_any u vq (cornersP (crossPR l m) l) m w1 h ((hq.below B).mono B.size) (by omega) pc2 hm)
  have f8 := Lib.hid (fun u (L : List Pt) w1 (h : PtsAt w1.heap.size w1 u L) (h1 : 0 < L.length) => least4_any u L w1 h h1)
  obtain ⟨ap, capp, rfl⟩ := hp.len
  obtain ⟨aq, capq, rfl⟩ := hq.len
  have hA := (Below.refl w.heap.size w).alloc (Nat.le_refl _) (.cells #[.int .i64 0, .int .i64 0] 31)
  have hN := Has.new w #[.int .i64 0, .int .i64 0] 31
  have HS : Hid (RS w.heap.size w (w.alloc (.cells #[.int .i64 0, .int .i64 0] 31))) := ⟨hN, hA⟩
  clear hp hq hl hm GL GM pc pc2 hN hA
  go_enter Try.func40, Try.ntmps40
  go_wp2_with fail
  refine (f1.out _ HS.out.2).mono ?_
  rintro e w1 ⟨rfl, b1⟩
  have H1 := Lib.hid (HS.out.below b1)
  clear b1 HS
  go_wp2_with fail
  refine (f2.out _ H1.out.2).mono ?_
  rintro e w2 ⟨rfl, b2⟩
  have H2 := Lib.hid (H1.out.below b2)
  clear b2 H1
  go_wp2_with fail
  refine (f3.out _ H2.out.2).mono ?_
  rintro e w3 ⟨v3, rfl, h3, b3⟩
  have P3 := Lib.hid h3
  have H3 := Lib.hid (H2.out.below b3)
  obtain ⟨a3, k3, rfl⟩ := h3.len
  clear b3 h3 H2
  by_cases e1 : (cornersP l m).length = 0
  · have d1 : (((cornersP l m).length : Int) == 0) = true := by rw [beq_iff_eq]; omega
    go_wp2_with fail
    refine (f4.out _ H3.out.2).mono ?_
    rintro e w4 ⟨v4, rfl, h4, b4⟩
    have P4 := Lib.hid h4
    have H4 := Lib.hid (H3.out.below b4)
    obtain ⟨a4, k4, rfl⟩ := h4.len
    clear b4 h4 H3
    by_cases e2 : (cornersP m l).length = 0
    · have d2 : (((cornersP m l).length : Int) == 0) = true := by rw [beq_iff_eq]; omega
      go_wp2_with fail
      refine (f5.out _ H4.out.2).mono ?_
      rintro e w5 ⟨v5, rfl, h5, b5⟩
      have P5 := Lib.hid h5
      have H5 := Lib.hid (H4.out.below b5)
      clear b5 h5 H4
      go_wp2_with fail
      refine (f6.out _ _ H5.out.2 P5.out).mono ?_
      rintro e w6 ⟨v6, rfl, h6, b6⟩
      have P6 := Lib.hid h6
      have H6 := Lib.hid (H5.out.below b6)
      clear b6 h6 H5
      go_wp2_with fail
      refine (f7.out _ _ H6.out.2 P6.out).mono ?_
      rintro e w7 ⟨v7, rfl, h7, b7⟩
      have P7 := Lib.hid h7
      have H7 := Lib.hid (H6.out.below b7)
      obtain ⟨a7, k7, rfl⟩ := h7.len
      clear b7 h7 H6
      by_cases e3 : (cornersP (cornersP (crossPR l m) l) m).length = 0
      · have d3 : (((cornersP (cornersP (crossPR l m) l) m).length : Int) == 0) = true := by rw [beq_iff_eq]; omega
        have CX := Lib.hid (comX_r3 e1 e2 e3)
        obtain ⟨⟨x0, x1, y0, y1⟩, ⟨z0, z1⟩, BZ⟩ := res_pt 0 0 H7.out.1 (Nat.le_refl _) H7.out.2
        have BZ' := Lib.hid BZ
        clear BZ
        go_wp2
        refine bodyPost_ret (v := .tuple #[.agg #[.int .i64 0, .int .i64 0], .bool false, .int .i64 0]) (by simp [results, Try.f40, go_sem, z0, z1]) rfl ⟨?_, BZ'.out⟩
        rw [CX.out]; rfl
      · have d3 : (((cornersP (cornersP (crossPR l m) l) m).length : Int) == 0) = false := by rw [beq_eq_false_iff_ne]; omega
        have CX := Lib.hid (comX_r2 e1 e2 e3)
        go_wp2_with fail
        refine (f8.out _ _ _ P7.out (by omega)).mono ?_
        rintro e w9 ⟨rfl, b9⟩
        have H9 := Lib.hid (H7.out.below b9)
        obtain ⟨X, hX⟩ : ∃ X, (leastP (cornersP (cornersP (crossPR l m) l) m)).x = X := ⟨_, rfl⟩
        obtain ⟨Y, hY⟩ : ∃ Y, (leastP (cornersP (cornersP (crossPR l m) l) m)).y = Y := ⟨_, rfl⟩
        obtain ⟨⟨x0, x1, y0, y1⟩, ⟨z0, z1⟩, BZ⟩ := res_pt X Y H9.out.1 (Nat.le_refl _) H9.out.2
        have BZ' := Lib.hid BZ
        have HX := Lib.hid (And.intro hX hY)
        simp only [hX, hY]
        clear b9 BZ hX hY
        go_wp2
        refine bodyPost_ret (v := .tuple #[.agg #[.int .i64 X, .int .i64 Y], .bool true, .int .i64 0]) (by simp [results, Try.f40, go_sem, z0, z1]) rfl ⟨?_, BZ'.out⟩
        rw [CX.out, ← HX.out.1, ← HX.out.2]; rfl
    · have d2 : (((cornersP m l).length : Int) == 0) = false := by rw [beq_eq_false_iff_ne]; omega
      have CX := Lib.hid (comX_r1 e1 e2)
      go_wp2_with fail
      refine (f8.out _ _ _ P4.out (by omega)).mono ?_
      rintro e w9 ⟨rfl, b9⟩
      have H9 := Lib.hid (H4.out.below b9)
      obtain ⟨X, hX⟩ : ∃ X, (leastP (cornersP m l)).x = X := ⟨_, rfl⟩
      obtain ⟨Y, hY⟩ : ∃ Y, (leastP (cornersP m l)).y = Y := ⟨_, rfl⟩
      obtain ⟨⟨x0, x1, y0, y1⟩, ⟨z0, z1⟩, BZ⟩ := res_pt X Y H9.out.1 (Nat.le_refl _) H9.out.2
      have BZ' := Lib.hid BZ
      have HX := Lib.hid (And.intro hX hY)
      simp only [hX, hY]
      clear b9 BZ hX hY
      go_wp2
      refine bodyPost_ret (v := .tuple #[.agg #[.int .i64 X, .int .i64 Y], .bool true, .int .i64 0]) (by simp [results, Try.f40, go_sem, z0, z1]) rfl ⟨?_, BZ'.out⟩
      rw [CX.out, ← HX.out.1, ← HX.out.2]; rfl
  · have d1 : (((cornersP l m).length : Int) == 0) = false := by rw [beq_eq_false_iff_ne]; omega
    have CX := Lib.hid (comX_r0 e1)
    go_wp2_with fail
    refine (f8.out _ _ _ P3.out (by omega)).mono ?_
    rintro e w9 ⟨rfl, b9⟩
    have H9 := Lib.hid (H3.out.below b9)
    obtain ⟨X, hX⟩ : ∃ X, (leastP (cornersP l m)).x = X := ⟨_, rfl⟩
    obtain ⟨Y, hY⟩ : ∃ Y, (leastP (cornersP l m)).y = Y := ⟨_, rfl⟩
    obtain ⟨⟨x0, x1, y0, y1⟩, ⟨z0, z1⟩, BZ⟩ := res_pt X Y H9.out.1 (Nat.le_refl _) H9.out.2
    have BZ' := Lib.hid BZ
    have HX := Lib.hid (And.intro hX hY)
    simp only [hX, hY]
    clear b9 BZ hX hY
    go_wp2
    refine bodyPost_ret (v := .tuple #[.agg #[.int .i64 X, .int .i64 Y], .bool true, .int .i64 0]) (by simp [results, Try.f40, go_sem, z0, z1]) rfl ⟨?_, BZ'.out⟩
    rw [CX.out, ← HX.out.1, ← HX.out.2]; rfl

set_option linter.unusedSimpArgs false in
set_option maxRecDepth 8000 in
set_option maxHeartbeats 4000000 in
theorem rhit_any (vp vq : Value) (l m : List Pt) (w : World) (hp : PtsAt w.heap.size w vp l) (hq : PtsAt w.heap.size w vq m) :
    Calls Try.prog 18 #[vp, vq] w fun e w' => e = .returned (.tuple #[.agg #[.int .i64 (hitX l m), .int .i64 (hitY l m)], .bool (hitB l m), .int .i64 (hitE l m)]) ∧ Below w.heap.size w w' := by
  have f1 := Lib.hid (fun w1 (B : Below w.heap.size w w1) => rvalid_any vp l w1 ((hp.below B).mono B.size))
  have f2 := Lib.hid (fun w1 (B : Below w.heap.size w w1) => rvalid_any vq m w1 ((hq.below B).mono B.size))
  have f3 := Lib.hid (fun hl hm w1 (B : Below w.heap.size w w1) => touches_any vp vq l m w1 ((hp.below B).mono B.size) ((hq.below B).mono B.size) hl hm)
  have f4 := Lib.hid (fun hl hm w1 (B : Below w.heap.size w w1) => rcommon_any vp vq l m w1 ((hp.below B).mono B.size) ((hq.below B).mono B.size) hl hm)
  rw [← go_eq_ref] at f1 f2
  obtain ⟨ap, capp, rfl⟩ := hp.len
  obtain ⟨aq, capq, rfl⟩ := hq.len
  have hA := (Below.refl w.heap.size w).alloc (Nat.le_refl _) (.cells #[.int .i64 0, .int .i64 0] 31)
  have hN := Has.new w #[.int .i64 0, .int .i64 0] 31
  have HS : Hid (RS w.heap.size w (w.alloc (.cells #[.int .i64 0, .int .i64 0] 31))) := ⟨hN, hA⟩
  clear hp hq hN hA
  go_enter Try.func18, Try.ntmps18
  cases hl : goValid l
  · rw [hl] at f1
    have HR := Lib.hid (show hitX l m = 0 ∧ hitY l m = 0 ∧ hitB l m = false ∧ hitE l m = 1 by unfold hitX hitY hitB hitE; rw [hl]; simp)
    clear hl
    go_wp2_with fail
    refine (f1.out _ HS.out.2).mono ?_
    rintro e w1 ⟨rfl, b1⟩
    have H1 := Lib.hid (HS.out.below b1)
    clear b1 HS
    obtain ⟨⟨x0, x1, y0, y1⟩, ⟨z0, z1⟩, BZ⟩ := res_pt 0 0 H1.out.1 (Nat.le_refl _) H1.out.2
    have BZ' := Lib.hid BZ
    clear BZ
    go_wp2
    refine bodyPost_ret (v := .tuple #[.agg #[.int .i64 0, .int .i64 0], .bool false, .int .i64 1]) (by simp [results, Try.f18, go_sem, z0, z1]) rfl ⟨?_, BZ'.out⟩
    rw [HR.out.1, HR.out.2.1, HR.out.2.2.1, HR.out.2.2.2]
  rw [hl] at f1
  have HL := Lib.hid hl
  clear hl
  cases hm : goValid m
  · rw [hm] at f2
    have HR := Lib.hid (show hitX l m = 0 ∧ hitY l m = 0 ∧ hitB l m = false ∧ hitE l m = 1 by unfold hitX hitY hitB hitE; rw [hm]; simp)
    clear hm
    go_wp2_with fail
    refine (f1.out _ HS.out.2).mono ?_
    rintro e w1 ⟨rfl, b1⟩
    have H1 := Lib.hid (HS.out.below b1)
    clear b1 HS
    go_wp2_with fail
    refine (f2.out _ H1.out.2).mono ?_
    rintro e w2 ⟨rfl, b2⟩
    have H2 := Lib.hid (H1.out.below b2)
    clear b2 H1
    obtain ⟨⟨x0, x1, y0, y1⟩, ⟨z0, z1⟩, BZ⟩ := res_pt 0 0 H2.out.1 (Nat.le_refl _) H2.out.2
    have BZ' := Lib.hid BZ
    clear BZ
    go_wp2
    refine bodyPost_ret (v := .tuple #[.agg #[.int .i64 0, .int .i64 0], .bool false, .int .i64 1]) (by simp [results, Try.f18, go_sem, z0, z1]) rfl ⟨?_, BZ'.out⟩
    rw [HR.out.1, HR.out.2.1, HR.out.2.2.1, HR.out.2.2.2]
  rw [hm] at f2
  have HM := Lib.hid hm
  clear hm
  have F3 := Lib.hid (fun w1 B => f3.out HL.out HM.out w1 B)
  have F4 := Lib.hid (fun w1 B => f4.out HL.out HM.out w1 B)
  clear f3 f4
  cases ht : touchB l m
  · rw [ht] at F3
    have hc := comX_touch HL.out HM.out ht
    have HR := Lib.hid (show hitX l m = 0 ∧ hitY l m = 0 ∧ hitB l m = false ∧ hitE l m = 0 by unfold hitX hitY hitB hitE; rw [HL.out, HM.out, hc, ht]; simp [optX, optY])
    clear ht hc F4
    go_wp2_with fail
    refine (f1.out _ HS.out.2).mono ?_
    rintro e w1 ⟨rfl, b1⟩
    have H1 := Lib.hid (HS.out.below b1)
    clear b1 HS
    go_wp2_with fail
    refine (f2.out _ H1.out.2).mono ?_
    rintro e w2 ⟨rfl, b2⟩
    have H2 := Lib.hid (H1.out.below b2)
    clear b2 H1
    go_wp2_with fail
    refine (F3.out _ H2.out.2).mono ?_
    rintro e w3 ⟨rfl, b3⟩
    have H3 := Lib.hid (H2.out.below b3)
    clear b3 H2
    obtain ⟨⟨x0, x1, y0, y1⟩, ⟨z0, z1⟩, BZ⟩ := res_pt 0 0 H3.out.1 (Nat.le_refl _) H3.out.2
    have BZ' := Lib.hid BZ
    clear BZ
    go_wp2
    refine bodyPost_ret (v := .tuple #[.agg #[.int .i64 0, .int .i64 0], .bool false, .int .i64 0]) (by simp [results, Try.f18, go_sem, z0, z1]) rfl ⟨?_, BZ'.out⟩
    rw [HR.out.1, HR.out.2.1, HR.out.2.2.1, HR.out.2.2.2]
  rw [ht] at F3
  have HT := Lib.hid ht
  clear ht
  go_wp2_with fail
  refine (f1.out _ HS.out.2).mono ?_
  rintro e w1 ⟨rfl, b1⟩
  have H1 := Lib.hid (HS.out.below b1)
  clear b1 HS
  go_wp2_with fail
  refine (f2.out _ H1.out.2).mono ?_
  rintro e w2 ⟨rfl, b2⟩
  have H2 := Lib.hid (H1.out.below b2)
  clear b2 H1
  go_wp2_with fail
  refine (F3.out _ H2.out.2).mono ?_
  rintro e w3 ⟨rfl, b3⟩
  have H3 := Lib.hid (H2.out.below b3)
  clear b3 H2
  cases hc : comX l m with
  | none =>
    rw [hc] at F4
    have HR := Lib.hid (show hitX l m = 0 ∧ hitY l m = 0 ∧ hitB l m = false ∧ hitE l m = 20 by unfold hitX hitY hitB hitE; rw [HL.out, HM.out, hc, HT.out]; simp [optX, optY])
    simp only [optX, optY, Option.isSome_none] at F4
    clear hc
    go_wp2_with fail
    refine (F4.out _ H3.out.2).mono ?_
    rintro e w4 ⟨rfl, b4⟩
    have H4 := Lib.hid ((H3.out.below b4).below ((Below.refl w4.heap.size w4).alloc (Nat.le_refl _) (.cells #[.int .i64 0, .int .i64 0] 31)))
    clear b4 H3
    obtain ⟨⟨x0, x1, y0, y1⟩, ⟨z0, z1⟩, BZ⟩ := res_pt 0 0 H4.out.1 (Nat.le_refl _) H4.out.2
    have BZ' := Lib.hid BZ
    clear BZ
    go_wp2
    refine bodyPost_ret (v := .tuple #[.agg #[.int .i64 0, .int .i64 0], .bool false, .int .i64 20]) (by simp [results, Try.f18, go_sem, z0, z1]) rfl ⟨?_, BZ'.out⟩
    rw [HR.out.1, HR.out.2.1, HR.out.2.2.1, HR.out.2.2.2]
  | some p =>
    obtain ⟨px, py⟩ := p
    rw [hc] at F4
    have HR := Lib.hid (show hitX l m = px ∧ hitY l m = py ∧ hitB l m = true ∧ hitE l m = 0 by unfold hitX hitY hitB hitE; rw [HL.out, HM.out, hc]; simp [optX, optY])
    simp only [optX, optY, Option.isSome_some] at F4
    clear hc
    go_wp2_with fail
    refine (F4.out _ H3.out.2).mono ?_
    rintro e w4 ⟨rfl, b4⟩
    have H4 := Lib.hid ((H3.out.below b4).below ((Below.refl w4.heap.size w4).alloc (Nat.le_refl _) (.cells #[.int .i64 px, .int .i64 py] 31)))
    have N4 := Has.new w4 #[.int .i64 px, .int .i64 py] 31
    have n0 := N4.cell (i := 0) rfl
    have n1 := N4.cell (i := 1) rfl
    clear b4 H3 N4
    obtain ⟨⟨x0, x1, y0, y1⟩, ⟨z0, z1⟩, BZ⟩ := res_pt px py H4.out.1 (Nat.le_refl _) H4.out.2
    have BZ' := Lib.hid BZ
    clear BZ
    go_wp2
    refine bodyPost_ret (v := .tuple #[.agg #[.int .i64 px, .int .i64 py], .bool true, .int .i64 0]) (by simp [results, Try.f18, go_sem, z0, z1]) rfl ⟨?_, BZ'.out⟩
    rw [HR.out.1, HR.out.2.1, HR.out.2.2.1, HR.out.2.2.2]

set_option linter.unusedSimpArgs false in
set_option maxRecDepth 8000 in
set_option maxHeartbeats 2000000 in
theorem rfirst_any (vc vr : Value) (c : List Pt) (ls : List (List Pt)) (w : World) (hc : PtsAt w.heap.size w vc c) (hr : RocksAt w.heap.size w vr ls) :
    Calls Try.prog 16 #[vc, vr] w fun e w' => e = .returned (.tuple #[.int .i64 (firI c ls), .bool (firB c ls), .int .i64 (firE c ls)]) ∧ Below w.heap.size w w' := by
  have f1 := Lib.hid (fun w1 (B : Below w.heap.size w w1) => rvalid_any vc c w1 ((hc.below B).mono B.size))
  have f2 := Lib.hid (fun w1 (B : Below w.heap.size w w1) => polygons_any vr ls w1 ((hr.below B).mono B.size))
  have f3 := Lib.hid (fun hgc hgl w1 (B : Below w.heap.size w w1) => index_any vc vr c ls w1 ((hc.below B).mono B.size) ((hr.below B).mono B.size) hgc hgl)
  rw [← go_eq_ref] at f1
  obtain ⟨ac, capc, rfl⟩ := hc.len
  obtain ⟨_, ar, capr, rfl, _⟩ := hr
  clear hc
  by_cases hbig : 100 < ls.length
  · have d1 : decide ((ls.length : Int) > 100) = true := by simp; omega
    have HR := Lib.hid (show firI c ls = 0 ∧ firB c ls = false ∧ firE c ls = 2 by unfold firI firB firE; rw [if_neg (by omega), if_neg (by omega), if_neg (by omega)]; exact ⟨rfl, rfl, rfl⟩)
    go_enter Try.func16, Try.ntmps16
    go_wp2
    (try rw [Exit.noGoto_ret]); go_ret3
    exact ⟨by rw [HR.out.1, HR.out.2.1, HR.out.2.2]; rfl, Below.refl _ _⟩
  have d1 : decide ((ls.length : Int) > 100) = false := by simp; omega
  cases hgc : goValid c
  · rw [hgc] at f1
    have HR := Lib.hid (show firI c ls = 0 ∧ firB c ls = false ∧ firE c ls = 1 by unfold firI firB firE; rw [okRocks_eq, hgc]; simp; omega)
    clear hgc
    go_enter Try.func16, Try.ntmps16
    go_wp2_with fail
    refine (f1.out _ (Below.refl _ _)).mono ?_
    rintro e w1 ⟨rfl, b1⟩
    have B1 := Lib.hid b1
    clear b1
    go_wp2
    (try rw [Exit.noGoto_ret]); go_ret3
    exact ⟨by rw [HR.out.1, HR.out.2.1, HR.out.2.2]; rfl, B1.out⟩
  rw [hgc] at f1
  cases hgl : polysB ls
  · rw [hgl] at f2
    have HR := Lib.hid (show firI c ls = 0 ∧ firB c ls = false ∧ firE c ls = 1 by unfold firI firB firE; rw [okRocks_eq, hgl]; simp; omega)
    clear hgc hgl
    go_enter Try.func16, Try.ntmps16
    go_wp2_with fail
    refine (f1.out _ (Below.refl _ _)).mono ?_
    rintro e w1 ⟨rfl, b1⟩
    have B1 := Lib.hid b1
    clear b1
    go_wp2_with fail
    refine (f2.out _ B1.out).mono ?_
    rintro e w2 ⟨rfl, b2⟩
    have B2 := Lib.hid (B1.out.trans (b2.mono B1.out.size))
    clear b2
    go_wp2
    (try rw [Exit.noGoto_ret]); go_ret3
    exact ⟨by rw [HR.out.1, HR.out.2.1, HR.out.2.2]; rfl, B2.out⟩
  rw [hgl] at f2
  have F3 := Lib.hid (fun w1 B => f3.out hgc (polysB_iff.1 hgl) w1 B)
  have HR := Lib.hid (fir_ok (by omega) (show okRocks c ls = true by rw [okRocks_eq, hgc, hgl]; rfl))
  clear hgc hgl f3
  cases hq : hitTo c ls ls.length with
  | none =>
    rw [hq] at F3
    have HR' := Lib.hid (show firI c ls = 0 ∧ firB c ls = false ∧ firE c ls = 0 by have := HR.out; rw [hq] at this; exact this)
    simp only [idxO] at F3
    clear hq HR
    go_enter Try.func16, Try.ntmps16
    go_wp2_with fail
    refine (f1.out _ (Below.refl _ _)).mono ?_
    rintro e w1 ⟨rfl, b1⟩
    have B1 := Lib.hid b1
    clear b1
    go_wp2_with fail
    refine (f2.out _ B1.out).mono ?_
    rintro e w2 ⟨rfl, b2⟩
    have B2 := Lib.hid (B1.out.trans (b2.mono B1.out.size))
    clear b2
    go_wp2_with fail
    refine (F3.out _ B2.out).mono ?_
    rintro e w3 ⟨rfl, b3⟩
    have B3 := Lib.hid (B2.out.trans (b3.mono B2.out.size))
    clear b3
    go_wp2
    (try rw [Exit.noGoto_ret]); go_ret3
    exact ⟨by rw [HR'.out.1, HR'.out.2.1, HR'.out.2.2]; rfl, B3.out⟩
  | some q =>
    rw [hq] at F3
    have HR' := Lib.hid (show firI c ls = (q : Int) ∧ firB c ls = true ∧ firE c ls = 0 by have := HR.out; rw [hq] at this; exact this)
    simp only [idxO] at F3
    have d2 : decide ((q : Int) ≥ 0) = true := by simp
    have d3 : decide ((0 : Int) ≤ (q : Int)) = true := by simp
    have d4 : (if (0 : Int) > (q : Int) then (0 : Int) else (q : Int)) = (q : Int) := if_neg (by omega)
    have d5 : (if (q : Int) < 0 then (0 : Int) else (q : Int)) = (q : Int) := if_neg (by omega)
    have d6 : ¬ (q : Int) < 0 := by omega
    clear hq HR
    go_enter Try.func16, Try.ntmps16
    go_wp2_with fail
    refine (f1.out _ (Below.refl _ _)).mono ?_
    rintro e w1 ⟨rfl, b1⟩
    have B1 := Lib.hid b1
    clear b1
    go_wp2_with fail
    refine (f2.out _ B1.out).mono ?_
    rintro e w2 ⟨rfl, b2⟩
    have B2 := Lib.hid (B1.out.trans (b2.mono B1.out.size))
    clear b2
    go_wp2_with fail
    refine (F3.out _ B2.out).mono ?_
    rintro e w3 ⟨rfl, b3⟩
    have B3 := Lib.hid (B2.out.trans (b3.mono B2.out.size))
    clear b3
    go_wp2
    (try rw [Exit.noGoto_ret]); go_ret3
    exact ⟨by rw [HR'.out.1, HR'.out.2.1, HR'.out.2.2]; rfl, B3.out⟩
end Go.Proofs.Ytjjkmonfihomnaa
