/- landfallref32.Corridor. (Printed by tools/mkrcorridor.py.) -/
import Derived.Test.YtoekcefhphcjjaaGreatBin37
namespace Go.Proofs.YtoekcefhphcjjaaGreat
open Go.RowKit
attribute [local irreducible] wpQuiet

theorem rcorE_no {a b : Pt} {u v : Int} (h : placeP a = false ∨ placeP b = false ∨ radOk u = false ∨ radOk v = false) : corE a u b v = 1 ∧ corL a u b v = [] := by
  have e : corE a u b v = 1 := if_neg (by rintro ⟨h1, h2, h3, h4⟩; rcases h with h | h | h | h <;> simp_all)
  exact ⟨e, if_neg (by rw [e]; omega)⟩
theorem rshE_disk {n : Nat} {d : Pt} (h : n ≤ 100000) (hd : placeP d = true) : shE (diskP n) d = if allPl (mvL d (diskP n)) = true then 0 else 3 := if_pos ⟨goValid_of (disk_valid h), hd⟩
theorem far_cor {a b : Pt} {n m : Nat} (h1 : allPl (mvL a (diskP n)) = true) (h2 : allPl (mvL b (diskP m)) = true) : ∀ k, k < (mvL a (diskP n) ++ mvL b (diskP m)).length → far6 (nth (mvL a (diskP n) ++ mvL b (diskP m)) k) := by
  intro k hk
  have h := nth_mem' hk
  rw [allPl_mem] at h1 h2
  have hp : placeP (nth (mvL a (diskP n) ++ mvL b (diskP m)) k) = true := by
    rcases List.mem_append.1 h with h | h
    · exact h1 _ h
    · exact h2 _ h
  rw [place_iff] at hp
  unfold far6; omega
theorem disk_pos (a : Pt) (n : Nat) : 0 < (mvL a (diskP n)).length := by
  rw [mvL_len]; exact (hullP_of (oct0 n (octK n))).some (by simp [oct0])
/-- the cells of a list that is not empty -/
theorem PtsAt.addr {n0 : Nat} {W : World} {v : Value} {l : List Pt} (h : PtsAt n0 W v l) (h0 : 0 < l.length) : ∃ b o cap, v = .slice (some ⟨b, o, none⟩) l.length (l.length + cap) ∧ b < n0 ∧ ∀ j u, (ptCells l)[j]? = some u → W.cell? ((⟨b, o, none⟩ : Addr).add j) = some u := by
  obtain ⟨_, a, cap, e, hc⟩ := h
  rcases hc with rfl | ⟨b, o, rfl, hb, hc⟩
  · simp at h0
  · exact ⟨b, o, cap, e, hb, pt_add hc⟩
set_option linter.unusedSimpArgs false in
set_option maxRecDepth 8000 in
set_option maxHeartbeats 4000000 in
theorem rcorridor_any (a b : Pt) (u v : Int) (w : World) :
    Calls Tryz.prog 16 #[.agg #[.int .i64 a.x, .int .i64 a.y], .int .i64 u, .agg #[.int .i64 b.x, .int .i64 b.y], .int .i64 v] w fun e w' => ∃ r, e = .returned (.tuple #[r, .int .i64 (corE a u b v)]) ∧ PtsAt w'.heap.size w' r (corL a u b v) ∧ Below w.heap.size w w' := by
  have NA := (Has.new w #[.int .i64 a.x, .int .i64 a.y] 23).below ((Below.refl (w.heap.size + 1) _).alloc (by simp) (.cells #[.int .i64 b.x, .int .i64 b.y] 23)) (by omega)
  have NB := Has.new (w.alloc (.cells #[.int .i64 a.x, .int .i64 a.y] 23)) #[.int .i64 b.x, .int .i64 b.y] 23
  rw [World.size_alloc] at NB
  have hs : ((w.alloc (.cells #[.int .i64 a.x, .int .i64 a.y] 23)).alloc (.cells #[.int .i64 b.x, .int .i64 b.y] 23)).heap.size = w.heap.size + 2 := by simp
  have HA := Lib.hid (((Below.refl w.heap.size w).alloc (Nat.le_refl _) (.cells #[.int .i64 a.x, .int .i64 a.y] 23)).alloc (by first | omega | (simp; done) | (simp; omega)) (.cells #[.int .i64 b.x, .int .i64 b.y] 23))
  have hcell := Lib.hid (fun w' (B : Below ((w.alloc (.cells #[.int .i64 a.x, .int .i64 a.y] 23)).alloc (.cells #[.int .i64 b.x, .int .i64 b.y] 23)).heap.size ((w.alloc (.cells #[.int .i64 a.x, .int .i64 a.y] 23)).alloc (.cells #[.int .i64 b.x, .int .i64 b.y] 23)) w') => (show w'.cell? ⟨w.heap.size, 0, none⟩ = some (.int .i64 a.x) ∧ w'.cell? ⟨w.heap.size, 1, none⟩ = some (.int .i64 a.y) ∧ w'.cell? ⟨w.heap.size + 1, 0, none⟩ = some (.int .i64 b.x) ∧ w'.cell? ⟨w.heap.size + 1, 1, none⟩ = some (.int .i64 b.y) from
    ⟨(NA.below B (by omega)).cell (i := 0) rfl, (NA.below B (by omega)).cell (i := 1) rfl, (NB.below B (by omega)).cell (i := 0) rfl, (NB.below B (by omega)).cell (i := 1) rfl⟩))
  have HF := Lib.hid (fun w' (B : Below ((w.alloc (.cells #[.int .i64 a.x, .int .i64 a.y] 23)).alloc (.cells #[.int .i64 b.x, .int .i64 b.y] 23)).heap.size ((w.alloc (.cells #[.int .i64 a.x, .int .i64 a.y] 23)).alloc (.cells #[.int .i64 b.x, .int .i64 b.y] 23)) w') => HA.out.trans (B.mono HA.out.size))
  have B0 := Lib.hid (Below.refl ((w.alloc (.cells #[.int .i64 a.x, .int .i64 a.y] 23)).alloc (.cells #[.int .i64 b.x, .int .i64 b.y] 23)).heap.size ((w.alloc (.cells #[.int .i64 a.x, .int .i64 a.y] 23)).alloc (.cells #[.int .i64 b.x, .int .i64 b.y] 23)))
  obtain ⟨c0, c1, c2, c3⟩ := hcell.out _ B0.out
  clear NA NB hs
  have fa := fun w1 => rplace_any a.x a.y w1
  have fb := fun w1 => rplace_any b.x b.y w1
  have fu := fun w1 => rradius_any u w1
  have fv := fun w1 => rradius_any v w1
  cases ha : placeP a
  all_goals rw [show placeB a.x a.y = _ from ha] at fa
  all_goals cases hb : placeP b
  all_goals rw [show placeB b.x b.y = _ from hb] at fb
  all_goals have fa := Lib.hid fa
  all_goals have fb := Lib.hid fb
  case false.false =>
    obtain ⟨e1, e2⟩ := rcorE_no (a := a) (b := b) (u := u) (v := v) (.inl ha)
    have HE := Lib.hid e1
    have HL := Lib.hid e2
    clear e1 e2 ha hb
    go_enter Tryz.func16, Tryz.ntmps16
    go_wp2_with fail
    refine (fa.out _).mono ?_
    rintro e w1 ⟨rfl, b1⟩
    have B1 := Lib.hid (B0.out.trans (b1.mono B0.out.size))
    clear b1
    clear c0 c1 c2 c3
    obtain ⟨c0, c1, c2, c3⟩ := hcell.out _ B1.out
    go_wp2_with fail
    refine (fb.out _).mono ?_
    rintro e w2 ⟨rfl, b2⟩
    have B2 := Lib.hid (B1.out.trans (b2.mono B1.out.size))
    clear b2
    clear c0 c1 c2 c3
    obtain ⟨c0, c1, c2, c3⟩ := hcell.out _ B2.out
    go_wp2
    go_ret2
    exact ⟨.slice none 0 0, by rw [HE.out]; rfl, by rw [HL.out]; exact PtsAt.nil _ _, HF.out _ B2.out⟩
  case false.true =>
    obtain ⟨e1, e2⟩ := rcorE_no (a := a) (b := b) (u := u) (v := v) (.inl ha)
    have HE := Lib.hid e1
    have HL := Lib.hid e2
    clear e1 e2 ha hb
    go_enter Tryz.func16, Tryz.ntmps16
    go_wp2_with fail
    refine (fa.out _).mono ?_
    rintro e w1 ⟨rfl, b1⟩
    have B1 := Lib.hid (B0.out.trans (b1.mono B0.out.size))
    clear b1
    clear c0 c1 c2 c3
    obtain ⟨c0, c1, c2, c3⟩ := hcell.out _ B1.out
    go_wp2_with fail
    refine (fb.out _).mono ?_
    rintro e w2 ⟨rfl, b2⟩
    have B2 := Lib.hid (B1.out.trans (b2.mono B1.out.size))
    clear b2
    clear c0 c1 c2 c3
    obtain ⟨c0, c1, c2, c3⟩ := hcell.out _ B2.out
    go_wp2
    go_ret2
    exact ⟨.slice none 0 0, by rw [HE.out]; rfl, by rw [HL.out]; exact PtsAt.nil _ _, HF.out _ B2.out⟩
  case true.false =>
    obtain ⟨e1, e2⟩ := rcorE_no (a := a) (b := b) (u := u) (v := v) (.inr (.inl hb))
    have HE := Lib.hid e1
    have HL := Lib.hid e2
    clear e1 e2 ha hb
    go_enter Tryz.func16, Tryz.ntmps16
    go_wp2_with fail
    refine (fa.out _).mono ?_
    rintro e w1 ⟨rfl, b1⟩
    have B1 := Lib.hid (B0.out.trans (b1.mono B0.out.size))
    clear b1
    clear c0 c1 c2 c3
    obtain ⟨c0, c1, c2, c3⟩ := hcell.out _ B1.out
    go_wp2_with fail
    refine (fb.out _).mono ?_
    rintro e w2 ⟨rfl, b2⟩
    have B2 := Lib.hid (B1.out.trans (b2.mono B1.out.size))
    clear b2
    clear c0 c1 c2 c3
    obtain ⟨c0, c1, c2, c3⟩ := hcell.out _ B2.out
    go_wp2
    go_ret2
    exact ⟨.slice none 0 0, by rw [HE.out]; rfl, by rw [HL.out]; exact PtsAt.nil _ _, HF.out _ B2.out⟩
  cases hu : radOk u
  · obtain ⟨e1, e2⟩ := rcorE_no (a := a) (b := b) (u := u) (v := v) (.inr (.inr (.inl hu)))
    rw [hu] at fu
    have fu := Lib.hid fu
    have HE := Lib.hid e1
    have HL := Lib.hid e2
    clear e1 e2 ha hb hu
    go_enter Tryz.func16, Tryz.ntmps16
    go_wp2_with fail
    refine (fa.out _).mono ?_
    rintro e w1 ⟨rfl, b1⟩
    have B1 := Lib.hid (B0.out.trans (b1.mono B0.out.size))
    clear b1
    clear c0 c1 c2 c3
    obtain ⟨c0, c1, c2, c3⟩ := hcell.out _ B1.out
    go_wp2_with fail
    refine (fb.out _).mono ?_
    rintro e w2 ⟨rfl, b2⟩
    have B2 := Lib.hid (B1.out.trans (b2.mono B1.out.size))
    clear b2
    clear c0 c1 c2 c3
    obtain ⟨c0, c1, c2, c3⟩ := hcell.out _ B2.out
    go_wp2_with fail
    refine (fu.out _).mono ?_
    rintro e w3 ⟨rfl, b3⟩
    have B3 := Lib.hid (B2.out.trans (b3.mono B2.out.size))
    clear b3
    clear c0 c1 c2 c3
    obtain ⟨c0, c1, c2, c3⟩ := hcell.out _ B3.out
    go_wp2
    go_ret2
    exact ⟨.slice none 0 0, by rw [HE.out]; rfl, by rw [HL.out]; exact PtsAt.nil _ _, HF.out _ B3.out⟩
  rw [hu] at fu
  cases hv : radOk v
  · obtain ⟨e1, e2⟩ := rcorE_no (a := a) (b := b) (u := u) (v := v) (.inr (.inr (.inr hv)))
    rw [hv] at fv
    have fv := Lib.hid fv
    have HE := Lib.hid e1
    have HL := Lib.hid e2
    clear e1 e2 ha hb hu hv
    have fu := Lib.hid fu
    go_enter Tryz.func16, Tryz.ntmps16
    go_wp2_with fail
    refine (fa.out _).mono ?_
    rintro e w1 ⟨rfl, b1⟩
    have B1 := Lib.hid (B0.out.trans (b1.mono B0.out.size))
    clear b1
    clear c0 c1 c2 c3
    obtain ⟨c0, c1, c2, c3⟩ := hcell.out _ B1.out
    go_wp2_with fail
    refine (fb.out _).mono ?_
    rintro e w2 ⟨rfl, b2⟩
    have B2 := Lib.hid (B1.out.trans (b2.mono B1.out.size))
    clear b2
    clear c0 c1 c2 c3
    obtain ⟨c0, c1, c2, c3⟩ := hcell.out _ B2.out
    go_wp2_with fail
    refine (fu.out _).mono ?_
    rintro e w3 ⟨rfl, b3⟩
    have B3 := Lib.hid (B2.out.trans (b3.mono B2.out.size))
    clear b3
    clear c0 c1 c2 c3
    obtain ⟨c0, c1, c2, c3⟩ := hcell.out _ B3.out
    go_wp2_with fail
    refine (fv.out _).mono ?_
    rintro e w4 ⟨rfl, b4⟩
    have B4 := Lib.hid (B3.out.trans (b4.mono B3.out.size))
    clear b4
    clear c0 c1 c2 c3
    obtain ⟨c0, c1, c2, c3⟩ := hcell.out _ B4.out
    go_wp2
    go_ret2
    exact ⟨.slice none 0 0, by rw [HE.out]; rfl, by rw [HL.out]; exact PtsAt.nil _ _, HF.out _ B4.out⟩
  rw [hv] at fv
  have fu := Lib.hid fu
  have fv := Lib.hid fv
  have r1 : 0 ≤ u ∧ u ≤ 100000 := by simpa [radOk] using hu
  have r2 : 0 ≤ v ∧ v ≤ 100000 := by simpa [radOk] using hv
  obtain ⟨n, rfl⟩ : ∃ n : Nat, u = n := ⟨u.toNat, by omega⟩
  obtain ⟨m, rfl⟩ : ∃ m : Nat, v = m := ⟨v.toNat, by omega⟩
  have n1 : n ≤ 100000 := by omega
  have n2 : m ≤ 100000 := by omega
  have hE : corE a n b m = if allPl (mvL a (diskP n)) = true ∧ allPl (mvL b (diskP m)) = true then 0 else 3 := if_pos ⟨ha, hb, hu, hv⟩
  have hL : corL a n b m = if corE a n b m = 0 then corH a n b m else [] := rfl
  have g3 := fun w1 => rdisk32_any a n w1 n1
  have g4 := fun w1 => rdisk32_any b m w1 n2
  rw [rshE_disk n1 ha] at g3
  rw [rshE_disk n2 hb] at g4
  have k3 : shL (diskP n) a = if shE (diskP n) a = 0 then mvL a (diskP n) else [] := rfl
  have k4 : shL (diskP m) b = if shE (diskP m) b = 0 then mvL b (diskP m) else [] := rfl
  rw [rshE_disk n1 ha] at k3
  rw [rshE_disk n2 hb] at k4
  clear r1 r2 ha hb hu hv
  have HLD := Lib.hid (And.intro (disk_len n) (disk_len m))
  have HFC := Lib.hid (fun h1 h2 => far_cor (a := a) (n := n) (b := b) (m := m) h1 h2)
  have HPD := Lib.hid (And.intro (disk_pos a n) (disk_pos b m))
  have HC : Hid (hullP (mvL a (diskP n) ++ mvL b (diskP m)) = corH a n b m) := rfl
  cases t1 : allPl (mvL a (diskP n))
  all_goals cases t2 : allPl (mvL b (diskP m))
  all_goals rw [t1] at g3 k3 hE
  all_goals rw [t2] at g4 k4 hE
  all_goals simp only [Bool.false_eq_true, false_and, and_false, and_true, if_true, if_false, true_and, Int.reduceEq] at g3 k3 g4 k4 hE
  all_goals rw [hE] at hL
  all_goals simp only [Int.reduceEq, if_true, if_false] at hL
  all_goals rw [k3] at g3
  all_goals rw [k4] at g4
  case false.false =>
    clear t1 t2 k3 k4
    have HE := Lib.hid hE
    have HL := Lib.hid hL
    have g3 := Lib.hid g3
    have g4 := Lib.hid g4
    clear hE hL
    go_enter Tryz.func16, Tryz.ntmps16
    go_wp2_with fail
    refine (fa.out _).mono ?_
    rintro e w1 ⟨rfl, b1⟩
    have B1 := Lib.hid (B0.out.trans (b1.mono B0.out.size))
    clear b1
    clear c0 c1 c2 c3
    obtain ⟨c0, c1, c2, c3⟩ := hcell.out _ B1.out
    go_wp2_with fail
    refine (fb.out _).mono ?_
    rintro e w2 ⟨rfl, b2⟩
    have B2 := Lib.hid (B1.out.trans (b2.mono B1.out.size))
    clear b2
    clear c0 c1 c2 c3
    obtain ⟨c0, c1, c2, c3⟩ := hcell.out _ B2.out
    go_wp2_with fail
    refine (fu.out _).mono ?_
    rintro e w3 ⟨rfl, b3⟩
    have B3 := Lib.hid (B2.out.trans (b3.mono B2.out.size))
    clear b3
    clear c0 c1 c2 c3
    obtain ⟨c0, c1, c2, c3⟩ := hcell.out _ B3.out
    go_wp2_with fail
    refine (fv.out _).mono ?_
    rintro e w4 ⟨rfl, b4⟩
    have B4 := Lib.hid (B3.out.trans (b4.mono B3.out.size))
    clear b4
    clear c0 c1 c2 c3
    obtain ⟨c0, c1, c2, c3⟩ := hcell.out _ B4.out
    go_wp2_with fail
    refine (g3.out _).mono ?_
    rintro e w5 ⟨v5, rfl, p5, b5⟩
    have B5 := Lib.hid (B4.out.trans (b5.mono B4.out.size))
    have P5 := Lib.hid p5
    obtain ⟨a5, d5, hv5⟩ := p5.len
    subst hv5
    clear p5
    clear b5
    clear c0 c1 c2 c3
    obtain ⟨c0, c1, c2, c3⟩ := hcell.out _ B5.out
    go_wp2_with fail
    refine (g4.out _).mono ?_
    rintro e w6 ⟨v6, rfl, p6, b6⟩
    have B6 := Lib.hid (B5.out.trans (b6.mono B5.out.size))
    have P6 := Lib.hid p6
    have Q6 := Lib.hid ((P5.out.below b6).mono b6.size)
    obtain ⟨a6, d6, hv6⟩ := p6.len
    subst hv6
    clear p6 P5
    clear b6
    clear c0 c1 c2 c3
    go_wp2
    go_ret2
    exact ⟨.slice none 0 0, by rw [HE.out]; rfl, by rw [HL.out]; exact PtsAt.nil _ _, HF.out _ B6.out⟩
  case false.true =>
    clear t1 t2 k3 k4
    have HE := Lib.hid hE
    have HL := Lib.hid hL
    have g3 := Lib.hid g3
    have g4 := Lib.hid g4
    clear hE hL
    go_enter Tryz.func16, Tryz.ntmps16
    go_wp2_with fail
    refine (fa.out _).mono ?_
    rintro e w1 ⟨rfl, b1⟩
    have B1 := Lib.hid (B0.out.trans (b1.mono B0.out.size))
    clear b1
    clear c0 c1 c2 c3
    obtain ⟨c0, c1, c2, c3⟩ := hcell.out _ B1.out
    go_wp2_with fail
    refine (fb.out _).mono ?_
    rintro e w2 ⟨rfl, b2⟩
    have B2 := Lib.hid (B1.out.trans (b2.mono B1.out.size))
    clear b2
    clear c0 c1 c2 c3
    obtain ⟨c0, c1, c2, c3⟩ := hcell.out _ B2.out
    go_wp2_with fail
    refine (fu.out _).mono ?_
    rintro e w3 ⟨rfl, b3⟩
    have B3 := Lib.hid (B2.out.trans (b3.mono B2.out.size))
    clear b3
    clear c0 c1 c2 c3
    obtain ⟨c0, c1, c2, c3⟩ := hcell.out _ B3.out
    go_wp2_with fail
    refine (fv.out _).mono ?_
    rintro e w4 ⟨rfl, b4⟩
    have B4 := Lib.hid (B3.out.trans (b4.mono B3.out.size))
    clear b4
    clear c0 c1 c2 c3
    obtain ⟨c0, c1, c2, c3⟩ := hcell.out _ B4.out
    go_wp2_with fail
    refine (g3.out _).mono ?_
    rintro e w5 ⟨v5, rfl, p5, b5⟩
    have B5 := Lib.hid (B4.out.trans (b5.mono B4.out.size))
    have P5 := Lib.hid p5
    obtain ⟨a5, d5, hv5⟩ := p5.len
    subst hv5
    clear p5
    clear b5
    clear c0 c1 c2 c3
    obtain ⟨c0, c1, c2, c3⟩ := hcell.out _ B5.out
    go_wp2_with fail
    refine (g4.out _).mono ?_
    rintro e w6 ⟨v6, rfl, p6, b6⟩
    have B6 := Lib.hid (B5.out.trans (b6.mono B5.out.size))
    have P6 := Lib.hid p6
    have Q6 := Lib.hid ((P5.out.below b6).mono b6.size)
    obtain ⟨a6, d6, hv6⟩ := p6.len
    subst hv6
    clear p6 P5
    clear b6
    clear c0 c1 c2 c3
    go_wp2
    go_ret2
    exact ⟨.slice none 0 0, by rw [HE.out]; rfl, by rw [HL.out]; exact PtsAt.nil _ _, HF.out _ B6.out⟩
  case true.false =>
    clear t1 t2 k3 k4
    have HE := Lib.hid hE
    have HL := Lib.hid hL
    have g3 := Lib.hid g3
    have g4 := Lib.hid g4
    clear hE hL
    go_enter Tryz.func16, Tryz.ntmps16
    go_wp2_with fail
    refine (fa.out _).mono ?_
    rintro e w1 ⟨rfl, b1⟩
    have B1 := Lib.hid (B0.out.trans (b1.mono B0.out.size))
    clear b1
    clear c0 c1 c2 c3
    obtain ⟨c0, c1, c2, c3⟩ := hcell.out _ B1.out
    go_wp2_with fail
    refine (fb.out _).mono ?_
    rintro e w2 ⟨rfl, b2⟩
    have B2 := Lib.hid (B1.out.trans (b2.mono B1.out.size))
    clear b2
    clear c0 c1 c2 c3
    obtain ⟨c0, c1, c2, c3⟩ := hcell.out _ B2.out
    go_wp2_with fail
    refine (fu.out _).mono ?_
    rintro e w3 ⟨rfl, b3⟩
    have B3 := Lib.hid (B2.out.trans (b3.mono B2.out.size))
    clear b3
    clear c0 c1 c2 c3
    obtain ⟨c0, c1, c2, c3⟩ := hcell.out _ B3.out
    go_wp2_with fail
    refine (fv.out _).mono ?_
    rintro e w4 ⟨rfl, b4⟩
    have B4 := Lib.hid (B3.out.trans (b4.mono B3.out.size))
    clear b4
    clear c0 c1 c2 c3
    obtain ⟨c0, c1, c2, c3⟩ := hcell.out _ B4.out
    go_wp2_with fail
    refine (g3.out _).mono ?_
    rintro e w5 ⟨v5, rfl, p5, b5⟩
    have B5 := Lib.hid (B4.out.trans (b5.mono B4.out.size))
    have P5 := Lib.hid p5
    obtain ⟨a5, d5, hv5⟩ := p5.len
    subst hv5
    clear p5
    clear b5
    clear c0 c1 c2 c3
    obtain ⟨c0, c1, c2, c3⟩ := hcell.out _ B5.out
    go_wp2_with fail
    refine (g4.out _).mono ?_
    rintro e w6 ⟨v6, rfl, p6, b6⟩
    have B6 := Lib.hid (B5.out.trans (b6.mono B5.out.size))
    have P6 := Lib.hid p6
    have Q6 := Lib.hid ((P5.out.below b6).mono b6.size)
    obtain ⟨a6, d6, hv6⟩ := p6.len
    subst hv6
    clear p6 P5
    clear b6
    clear c0 c1 c2 c3
    go_wp2
    go_ret2
    exact ⟨.slice none 0 0, by rw [HE.out]; rfl, by rw [HL.out]; exact PtsAt.nil _ _, HF.out _ B6.out⟩
  case true.true =>
    have H12 := Lib.hid (And.intro t1 t2)
    clear t1 t2 k3 k4
    have HE := Lib.hid hE
    have HL := Lib.hid hL
    have g3 := Lib.hid g3
    have g4 := Lib.hid g4
    clear hE hL
    go_enter Tryz.func16, Tryz.ntmps16
    go_wp2_with fail
    refine (fa.out _).mono ?_
    rintro e w1 ⟨rfl, b1⟩
    have B1 := Lib.hid (B0.out.trans (b1.mono B0.out.size))
    clear b1
    clear c0 c1 c2 c3
    obtain ⟨c0, c1, c2, c3⟩ := hcell.out _ B1.out
    go_wp2_with fail
    refine (fb.out _).mono ?_
    rintro e w2 ⟨rfl, b2⟩
    have B2 := Lib.hid (B1.out.trans (b2.mono B1.out.size))
    clear b2
    clear c0 c1 c2 c3
    obtain ⟨c0, c1, c2, c3⟩ := hcell.out _ B2.out
    go_wp2_with fail
    refine (fu.out _).mono ?_
    rintro e w3 ⟨rfl, b3⟩
    have B3 := Lib.hid (B2.out.trans (b3.mono B2.out.size))
    clear b3
    clear c0 c1 c2 c3
    obtain ⟨c0, c1, c2, c3⟩ := hcell.out _ B3.out
    go_wp2_with fail
    refine (fv.out _).mono ?_
    rintro e w4 ⟨rfl, b4⟩
    have B4 := Lib.hid (B3.out.trans (b4.mono B3.out.size))
    clear b4
    clear c0 c1 c2 c3
    obtain ⟨c0, c1, c2, c3⟩ := hcell.out _ B4.out
    go_wp2_with fail
    refine (g3.out _).mono ?_
    rintro e w5 ⟨v5, rfl, p5, b5⟩
    have B5 := Lib.hid (B4.out.trans (b5.mono B4.out.size))
    have P5 := Lib.hid p5
    obtain ⟨a5, d5, hv5⟩ := p5.len
    subst hv5
    clear p5
    clear b5
    clear c0 c1 c2 c3
    obtain ⟨c0, c1, c2, c3⟩ := hcell.out _ B5.out
    go_wp2_with fail
    refine (g4.out _).mono ?_
    rintro e w6 ⟨v6, rfl, p6, b6⟩
    have B6 := Lib.hid (B5.out.trans (b6.mono B5.out.size))
    have P6 := Lib.hid p6
    have Q6 := Lib.hid ((P5.out.below b6).mono b6.size)
    obtain ⟨a6, d6, hv6⟩ := p6.len
    subst hv6
    clear p6 P5
    clear b6
    clear c0 c1 c2 c3
    obtain ⟨i0, hi, hz0', hz1', hz2'⟩ := info_parts ptInfo
    have hl1 : (mvL a (diskP n)).length ≤ 8 := by rw [mvL_len]; exact HLD.out.1
    have hl2 : (mvL b (diskP m)).length ≤ 8 := by rw [mvL_len]; exact HLD.out.2
    obtain ⟨bp, op, cp, hp1, hp2, hp3⟩ := Q6.out.addr HPD.out.1
    obtain ⟨bq, oq, cq, hq1, hq2, hq3⟩ := P6.out.addr HPD.out.2
    simp only [Value.slice.injEq] at hp1 hq1
    obtain ⟨hp1, _, hp4⟩ := hp1
    obtain ⟨hq1, _, hq4⟩ := hq1
    subst hp1
    subst hq1
    obtain rfl : d5 = cp := by omega
    obtain rfl : d6 = cq := by omega
    clear hp4 hq4 hp2
    have HQ3 := Lib.hid (And.intro hq2 hq3)
    have HP3 := Lib.hid hp3
    clear hq3 hp3
    have R6 := Lib.hid (World.ownsRow_nil w6 w6.heap.size 23 2)
    go_wp2_with (first | (at_builtin; refine wpList_append_own _ rfl _ _ 25 rfl w6.heap.size 23 i0 (.agg #[.int .i64 0, .int .i64 0]) 2 16 Tryz.underlying25 hi hz0' hz1' hz2' rfl (by decide) _ _ _ rfl R6.out ⟨bp, op, none⟩ (mvL a (diskP n)).length ((mvL a (diskP n)).length + d5) (ptCells (mvL a (diskP n))) rfl (ptCells_len _) HP3.out (ptCells_one _) (by unfold maxLen; omega) (by omega) (by omega) ?_; intro v7 w7 hown7 hgrow7 _; have A7 := Lib.hid ((Below.refl w6.heap.size w6).grown hgrow7 (Nat.le_refl _) (fun j ej => (R6.out.lt j ej).1)); have R7 := Lib.hid hown7; have z7 := A7.out.size; clear hgrow7 hown7) | (at_builtin; refine wpList_append_own _ rfl _ _ 25 rfl w6.heap.size 23 i0 (.agg #[.int .i64 0, .int .i64 0]) 2 16 Tryz.underlying25 hi hz0' hz1' hz2' rfl (by decide) _ _ _ rfl R7.out ⟨bq, oq, none⟩ (mvL b (diskP m)).length ((mvL b (diskP m)).length + d6) (ptCells (mvL b (diskP m))) rfl (ptCells_len _) (fun j u hu => by have h := HQ3.out.2 j u hu; exact (A7.out.cell (p := (⟨bq, oq, none⟩ : Addr).add j) (by have := HQ3.out.1; unfold Addr.add; split <;> simpa using this)).trans h) (ptCells_one _) (by unfold maxLen; omega) (by omega) (by omega) ?_; intro v8 w8 hown8 hgrow8 _; have A8 := Lib.hid (A7.out.grown hgrow8 (by omega) (fun j ej => (R7.out.lt j ej).1)); have R8 := Lib.hid hown8; have z8 := A8.out.size; clear hgrow8 hown8)) 
    have p8 := PtsAt.own (l := mvL a (diskP n) ++ mvL b (diskP m)) (by rw [ptCells_append]; exact R8.out) (by rw [List.length_append]; omega)
    have f9 := around_any _ (mvL a (diskP n) ++ mvL b (diskP m)) _ p8 (HFC.out H12.out.1 H12.out.2) (by rw [List.length_append]; omega)
    rw [HC.out] at f9
    refine f9.mono ?_
    rintro e w9 ⟨v9, rfl, p9, b9⟩
    have B9 := Lib.hid (B6.out.trans ((A8.out.trans (b9.mono z8)).mono B6.out.size))
    have P9 := Lib.hid p9
    obtain ⟨a9, d9, hv9⟩ := p9.len
    subst hv9
    clear p9 b9 f9 p8
    go_wp2
    go_ret2
    exact ⟨_, by rw [HE.out]; rfl, by rw [HL.out]; exact P9.out, HF.out _ B9.out⟩
end Go.Proofs.YtoekcefhphcjjaaGreat
