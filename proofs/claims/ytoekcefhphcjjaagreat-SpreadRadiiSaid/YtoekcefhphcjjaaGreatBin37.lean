/- landfallref06: Wide, Around, places, Shift; landfallref32: disk. | landfallref32: Radius, disk, Corridor, Has; landfallref03.Same. -/
import Derived.Test.YtoekcefhphcjjaaGreatBin25
import Derived.Test.YtoekcefhphcjjaaGreatBin20
import Derived.Test.YtoekcefhphcjjaaGreatBin36
import Derived.Test.YtoekcefhphcjjaaGreatBin07
import Derived.Test.YtoekcefhphcjjaaGreatBin09
namespace Go.Proofs.YtoekcefhphcjjaaGreat
open Go.RowKit
attribute [local irreducible] wpQuiet

set_option maxRecDepth 8000 in
set_option maxHeartbeats 1600000 in
theorem wide_any (n : Nat) (w : World) (hn : n ≤ 100000) :
    Calls Tryz.prog 135 #[.int .i64 n] w fun e w' => e = .returned (.int .i64 (wideN n : Int)) ∧ w = w' := by
  have hsp := wideN_spec n
  have hw1 := wideN_ge n
  have hw2 := wideN_two n
  obtain ⟨W, hW⟩ : ∃ W, wideN n = W := ⟨_, rfl⟩
  rw [hW] at hsp hw1 hw2 ⊢
  have hc : ∀ x : Nat, ((x : Int) * x < 2 * (n : Int) * n) ↔ x < W := fun x => by
    have h1 : ((x : Int) * x < 2 * (n : Int) * n) ↔ x * x < 2 * n * n := by rw [← Int.ofNat_lt]; simp
    rw [h1]
    constructor
    · intro h
      rcases Nat.lt_or_ge x W with h2 | h2
      · exact h2
      · have := Nat.mul_le_mul h2 h2; omega
    · exact hsp.2 x
  have HC := Lib.hid hc
  have w4 : IntKind.i64.wrap (2 * (n : Int)) = 2 * n := IntWalk.i64_in _ (by omega)
  have pn := prod_bd (a := 2 * (n : Int)) (b := n) (m := 200000) (n := 100000) (by omega) (by omega) (by omega) (by omega)
  have w5 : IntKind.i64.wrap (2 * (n : Int) * n) = 2 * n * n := IntWalk.i64_in _ (by omega)
  clear hsp hW hc pn
  go_enter Tryz.func135, Tryz.ntmps135
  go_wp2
  go_loopw [3, 4] (fun vm vs wr => ∃ m s : Nat, vm = .int .i64 (m : Int) ∧ vs = .int .i64 (s : Int) ∧ n ≤ m ∧ m ≤ W ∧ ((∃ q, q ≤ 16 ∧ s = 2 ^ q ∧ W ≤ m + 2 * s) ∨ (s = 0 ∧ W ≤ m + 1)) ∧ wr = w) (fun _ vs _ => (intOf vs).toNat)
  case atStart => exact ⟨n, 65536, rfl, rfl, by omega, by omega, .inl ⟨16, by omega, rfl, by omega⟩, rfl⟩
  case round =>
    obtain ⟨m, s, rfl, rfl, hm, hmW, hq, rfl⟩ := hrel
    by_cases hs : 0 < s
    · have ds : decide ((s : Int) > 0) = true := by simp; omega
      obtain ⟨t, ht, hts, hnext⟩ : ∃ t : Nat, s / 2 = t ∧ s ≤ 65536 ∧ ((s = 2 * t ∧ W ≤ m + 2 * s ∧ ∃ q, q ≤ 16 ∧ t = 2 ^ q) ∨ (s = 1 ∧ t = 0 ∧ W ≤ m + 2)) := by
        rcases hq with ⟨q, hq1, hq2, hq3⟩ | ⟨h0, _⟩
        · cases q with
          | zero => exact ⟨0, by rw [hq2], by omega, .inr ⟨hq2, rfl, by omega⟩⟩
          | succ q =>
            have e : s = 2 * 2 ^ q := by rw [hq2, Nat.pow_succ, Nat.mul_comm]
            have hle : 2 ^ (q + 1) ≤ 2 ^ 16 := Nat.pow_le_pow_right (by omega) hq1
            exact ⟨2 ^ q, by omega, by rw [hq2]; exact hle, .inl ⟨e, hq3, q, by omega, rfl⟩⟩
        · omega
      have w1 : IntKind.i64.wrap ((m : Int) + s) = m + s := IntWalk.i64_in _ (by omega)
      have p1 := prod_bd (a := (m : Int) + s) (b := (m : Int) + s) (m := 300000) (n := 300000) (by omega) (by omega) (by omega) (by omega)
      have w2 : IntKind.i64.wrap (((m : Int) + s) * ((m : Int) + s)) = ((m : Int) + s) * ((m : Int) + s) := IntWalk.i64_in _ (by omega)
      have w3 : IntKind.i64.wrap ((s : Int).tdiv 2) = t := by
        rw [Int.tdiv_eq_ediv_of_nonneg (by omega), show (s : Int) / 2 = t by omega]
        exact IntWalk.i64_in _ (by omega)
      have hd := HC.out (m + s)
      rw [Int.natCast_add] at hd
      have HN := Lib.hid hnext
      clear hq hnext p1 ht
      by_cases hlt : m + s < W
      · have d1 : decide (((m : Int) + s) * ((m : Int) + s) < 2 * (n : Int) * n) = true := by rw [decide_eq_true_eq]; exact hd.2 hlt
        clear hd
        go_wp2
        go_roundw
        case rel =>
          refine ⟨m + s, t, by go_num, by have := HN.out; simp; omega, by omega, by omega, ?_, by trivial⟩
          rcases HN.out with ⟨h1, h2, q, h3, h4⟩ | ⟨h1, h2, h3⟩
          · exact .inl ⟨q, h3, h4, by omega⟩
          · exact .inr ⟨h2, by omega⟩
        case measure => have := HN.out; simp [intOf]; omega
      · have d1 : decide (((m : Int) + s) * ((m : Int) + s) < 2 * (n : Int) * n) = false := by rw [decide_eq_false_iff_not]; exact fun h => hlt (hd.1 h)
        clear hd
        go_wp2
        go_roundw
        case rel =>
          refine ⟨m, t, rfl, by have := HN.out; simp; omega, by omega, by omega, ?_, by trivial⟩
          rcases HN.out with ⟨h1, h2, q, h3, h4⟩ | ⟨h1, h2, h3⟩
          · exact .inl ⟨q, h3, h4, by omega⟩
          · exact .inr ⟨h2, by omega⟩
        case measure => have := HN.out; simp [intOf]; omega
    · obtain rfl : s = 0 := by omega
      have hfin : W ≤ m + 1 := by
        rcases hq with ⟨q, _, h, _⟩ | ⟨_, h⟩
        · have : 0 < 2 ^ q := Nat.pow_pos (by omega)
          omega
        · exact h
      have p1 := prod_bd (a := (m : Int)) (b := (m : Int)) (m := 300000) (n := 300000) (by omega) (by omega) (by omega) (by omega)
      have w2 : IntKind.i64.wrap ((m : Int) * (m : Int)) = (m : Int) * (m : Int) := IntWalk.i64_in _ (by omega)
      have w1 : IntKind.i64.wrap ((m : Int) + 1) = (m : Int) + 1 := IntWalk.i64_in _ (by omega)
      have hd := HC.out m
      clear hq p1
      by_cases hlt : m < W
      · have d1 : decide ((m : Int) * (m : Int) < 2 * (n : Int) * n) = true := by rw [decide_eq_true_eq]; exact hd.2 hlt
        have he : Hid ((m : Int) + 1 = (W : Int)) := by show _ = _; omega
        clear hd
        go_wp2
        go_ret
        exact ⟨ret_int he.out, rfl⟩
      · have d1 : decide ((m : Int) * (m : Int) < 2 * (n : Int) * n) = false := by rw [decide_eq_false_iff_not]; exact fun h => hlt (hd.1 h)
        have he : Hid ((m : Int) = (W : Int)) := by show _ = _; omega
        clear hd
        go_wp2
        go_ret
        exact ⟨ret_int he.out, rfl⟩
theorem places6_any (v : Value) (l : List Pt) (w : World) (hp : PtsAt w.heap.size w v l) :
    Calls Tryz.prog 134 #[v] w fun e w' => e = .returned (.bool (allPl l)) ∧ Below w.heap.size w w' := by
  obtain ⟨hl, a, cap, rfl, hc⟩ := hp
  go_enter Tryz.func134, Tryz.ntmps134
  go_wp2
  go_loopw [3] (fun i wr => ∃ k : Nat, k ≤ l.length ∧ i = .int .i64 k ∧ (∀ j, j < k → placeP (nth l j) = true) ∧ Below w.heap.size w wr) (fun i _ => l.length - (intOf i).toNat)
  case atStart => exact ⟨0, Nat.zero_le _, rfl, fun j h => by omega, Below.refl _ _⟩
  case round =>
    obtain ⟨k, hk, rfl, hall, hB⟩ := hrel
    by_cases hlt : k < l.length
    · rcases hc with rfl | ⟨b, o, rfl, hb, hc⟩
      · simp at hlt
      have c1 := (hB.cell (p := ⟨b, o + k * 2, none⟩) hb).trans (hc k hlt).1
      have c2 := (hB.cell (p := ⟨b, o + k * 2 + 1, none⟩) hb).trans (hc k hlt).2
      have hall' := Lib.hid hall
      have hc' := Lib.hid hc
      clear hall hc
      have hz := hB.size
      cases hpl : placeB (nth l k).x (nth l k).y
      · have hr : Hid (allPl l = false) := by
          show allPl l = false
          simp only [allPl, decide_eq_false_iff_not]
          intro h
          have := h k hlt
          rw [placeP, hpl] at this
          cases this
        go_wp2_with (go_at_call 43; refine (rplace_any _ _ _).mono ?_; rintro e w1 ⟨rfl, hb1⟩; have hz1 := hb1.size; try simp at hz1)
        go_ret
        exact ⟨ret_bool hr.out.symm, by repeat (first | exact Below.refl _ _ | assumption | apply Below.drew | refine Below.setCell ?_ (by first | omega | (simp; done) | (simp; omega)) _ | refine Below.alloc ?_ (by first | omega | (simp; done) | (simp; omega)) _ | refine Below.call (by assumption) ?_ (by first | omega | (simp; done) | (simp; omega)))⟩
      · go_wp2_with (go_at_call 43; refine (rplace_any _ _ _).mono ?_; rintro e w1 ⟨rfl, hb1⟩; have hz1 := hb1.size; try simp at hz1)
        go_roundw
        case rel =>
          refine ⟨k + 1, by omega, by go_num, fun j hj => ?_, by repeat (first | exact Below.refl _ _ | assumption | apply Below.drew | refine Below.setCell ?_ (by first | omega | (simp; done) | (simp; omega)) _ | refine Below.alloc ?_ (by first | omega | (simp; done) | (simp; omega)) _ | refine Below.call (by assumption) ?_ (by first | omega | (simp; done) | (simp; omega)))⟩
          by_cases e : j = k
          · rw [e]; exact hpl
          · exact hall'.out j (by omega)
        case measure => simp [intOf]; omega
    · have hr : Hid (allPl l = true) := by
        show allPl l = true
        simp only [allPl, decide_eq_true_eq]
        intro j hj
        exact hall j (by omega)
      clear hall
      go_wp2
      go_ret
      exact ⟨ret_bool hr.out.symm, hB⟩
set_option linter.unusedSimpArgs false in
set_option maxRecDepth 8000 in
set_option maxHeartbeats 1600000 in
theorem disk6_any (n : Nat) (w : World) (hn : n ≤ 100000) :
    Calls Tryz.prog 90 #[.int .i64 n] w (PtsQ (diskP n) w) := by
  have f := wide_any n w hn
  have hkb := octK_bd n
  have hw1 := wideN_ge n
  have hw2 := wideN_two n
  have m1 : IntKind.i64.wrap ((wideN n : Int) - n) = octK n := IntWalk.i64_in _ (by omega)
  have hd : Hid (hullP (oct0 n (octK n)) = diskP n) := rfl
  have hfar : ∀ j, j < (oct0 n (octK n)).length → far6 (nth (oct0 n (octK n)) j) := fun j hj => by
    have := (oct_place hn (nth_mem' hj)).1
    unfold far6; omega
  generalize wideN n = W at *
  generalize octK n = k at *
  have m2 : IntKind.i64.wrap (-k) = -k := IntWalk.i64_in _ (by omega)
  have m3 : IntKind.i64.wrap (-(n : Int)) = -(n : Int) := IntWalk.i64_in _ (by omega)
  have HB := Lib.hid ((Below.refl w.heap.size w).alloc (Nat.le_refl _) (.cells #[.int .i64 n, .int .i64 (-k), .int .i64 n, .int .i64 k, .int .i64 k, .int .i64 n, .int .i64 (-k), .int .i64 n, .int .i64 (-n), .int .i64 k, .int .i64 (-n), .int .i64 (-k), .int .i64 (-k), .int .i64 (-n), .int .i64 k, .int .i64 (-n)] 23))
  have hp := pts_lit (l := oct0 n k) (Has.new w #[.int .i64 n, .int .i64 (-k), .int .i64 n, .int .i64 k, .int .i64 k, .int .i64 n, .int .i64 (-k), .int .i64 n, .int .i64 (-n), .int .i64 k, .int .i64 (-n), .int .i64 (-k), .int .i64 (-k), .int .i64 (-n), .int .i64 k, .int .i64 (-n)] 23) (by simp [oct0])
  have fA := Lib.hid (around_any _ (oct0 n k) _ hp hfar (by simp [oct0]))
  have f := Lib.hid f
  clear hfar hp hkb hw1 hw2
  go_enter Tryz.func90, Tryz.ntmps90
  go_wp2_with fail
  refine f.out.mono ?_
  rintro e w1 ⟨rfl, rfl⟩
  go_wp2_with fail
  refine fA.out.mono ?_
  rintro e w2 ⟨v, rfl, p2, b2⟩
  have P2 := Lib.hid p2
  have B2 := Lib.hid (HB.out.trans (b2.mono HB.out.size))
  clear p2 b2
  go_wp2
  go_ret
  exact ⟨_, rfl, by rw [← hd.out]; exact P2.out, B2.out⟩
theorem shE_no2 {l : List Pt} {d : Pt} (h : goValid l = false ∨ placeP d = false) : shE l d = 1 ∧ shL l d = [] := by
  have : shE l d = 1 := if_neg (by rintro ⟨a, b⟩; rcases h with h | h <;> simp_all)
  exact ⟨this, if_neg (by rw [this]; omega)⟩
set_option linter.unusedSimpArgs false in
set_option maxRecDepth 8000 in
set_option maxHeartbeats 1600000 in
theorem rshift_any (v : Value) (l : List Pt) (d : Pt) (w : World) (hp : PtsAt w.heap.size w v l) :
    Calls Tryz.prog 89 #[v, .agg #[.int .i64 d.x, .int .i64 d.y]] w fun e w' => ∃ u, e = .returned (.tuple #[u, .int .i64 (shE l d)]) ∧ PtsAt w'.heap.size w' u (shL l d) ∧ Below w.heap.size w w' := by
  have fP := fun w1 (B : Below w.heap.size w w1) => rvalid_any v l w1 ((hp.below B).mono B.size)
  rw [← go_eq_ref] at fP
  have HP := Lib.hid hp
  have BA := Lib.hid ((Below.refl w.heap.size w).alloc (Nat.le_refl _) (.cells #[.int .i64 d.x, .int .i64 d.y] 23))
  have HN := Lib.hid (Has.new w #[.int .i64 d.x, .int .i64 d.y] 23)
  have hs0 : w.heap.size < (w.alloc (.cells #[.int .i64 d.x, .int .i64 d.y] 23)).heap.size := by simp
  obtain ⟨a, cap, hvv⟩ := hp.len
  subst hvv
  clear hp
  cases hv : goValid l
  · rw [hv] at fP
    obtain ⟨e1, e2⟩ := shE_no2 (d := d) (.inl hv)
    have HE := Lib.hid e1
    have HL := Lib.hid e2
    have fP := Lib.hid fP
    clear hv e1 e2
    go_enter Tryz.func89, Tryz.ntmps89
    go_wp2_with fail
    refine (fP.out _ BA.out).mono ?_
    rintro e w1 ⟨rfl, b1⟩
    have B1 := Lib.hid (BA.out.trans (b1.mono BA.out.size))
    clear b1
    go_wp2
    go_ret2
    exact ⟨.slice none 0 0, by rw [HE.out]; rfl, by rw [HL.out]; exact PtsAt.nil _ _, B1.out⟩
  rw [hv] at fP
  have fP := Lib.hid fP
  have GV := Lib.hid (goValid_true hv)
  have HV := Lib.hid hv
  clear hv
  cases hd : placeP d
  · obtain ⟨e1, e2⟩ := shE_no2 (l := l) (.inr hd)
    have HE := Lib.hid e1
    have HL := Lib.hid e2
    have fI := fun w1 => rplace_any d.x d.y w1
    rw [show placeB d.x d.y = false from hd] at fI
    have fI := Lib.hid fI
    clear hd e1 e2
    go_enter Tryz.func89, Tryz.ntmps89
    go_wp2_with fail
    refine (fP.out _ BA.out).mono ?_
    rintro e w1 ⟨rfl, b1⟩
    have B1 := Lib.hid (BA.out.trans (b1.mono BA.out.size))
    have N1 := HN.out.below b1 hs0
    have x0 := N1.cell (i := 0) rfl
    have x1 := N1.cell (i := 1) rfl
    clear N1
    clear b1
    go_wp2_with fail
    refine (fI.out _).mono ?_
    rintro e w2 ⟨rfl, b2⟩
    have B2 := Lib.hid (B1.out.trans (b2.mono B1.out.size))
    clear x0 x1
    clear b2
    go_wp2
    go_ret2
    exact ⟨.slice none 0 0, by rw [HE.out]; rfl, by rw [HL.out]; exact PtsAt.nil _ _, B2.out⟩
  have HE : Hid (shE l d = if allPl (mvL d l) = true then 0 else 3) := if_pos ⟨HV.out, hd⟩
  have fI := fun w1 => rplace_any d.x d.y w1
  rw [show placeB d.x d.y = true from hd] at fI
  have fI := Lib.hid fI
  have fE := Lib.hid (fun w1 (B : Below w.heap.size w w1) => moved_any (.slice a l.length (l.length + cap)) l d w1 ((HP.out.below B).mono B.size) GV.out.2.1 (fun k hk => (GV.out.2.2.1 k hk).1) hd)
  have fQ := fun u w1 (P : PtsAt w1.heap.size w1 u (mvL d l)) => places6_any u (mvL d l) w1 P
  have hlen : Hid ((mvL d l).length ≤ 64) := by show _ ≤ _; rw [mvL_len]; exact GV.out.2.1
  clear hd
  cases hal : allPl (mvL d l)
  all_goals rw [hal] at fQ
  case false =>
    have HE2 : Hid (shE l d = 3) := HE.out.trans (if_neg (by rw [hal]; simp))
    have HL : Hid (shL l d = []) := if_neg (by rw [HE2.out]; omega)
    have fQ := Lib.hid fQ
    clear hal
    go_enter Tryz.func89, Tryz.ntmps89
    go_wp2_with fail
    refine (fP.out _ BA.out).mono ?_
    rintro e w1 ⟨rfl, b1⟩
    have B1 := Lib.hid (BA.out.trans (b1.mono BA.out.size))
    have N1 := HN.out.below b1 hs0
    have x0 := N1.cell (i := 0) rfl
    have x1 := N1.cell (i := 1) rfl
    have HN1 := Lib.hid N1
    clear N1
    clear b1
    go_wp2_with fail
    refine (fI.out _).mono ?_
    rintro e w2 ⟨rfl, b2⟩
    have B2 := Lib.hid (B1.out.trans (b2.mono B1.out.size))
    clear x0 x1
    have N2 := HN1.out.below b2 HN1.out.lt
    have x0 := N2.cell (i := 0) rfl
    have x1 := N2.cell (i := 1) rfl
    clear N2
    clear b2
    go_wp2_with fail
    refine (fE.out _ B2.out).mono ?_
    rintro e w3 ⟨u, rfl, r3, b3⟩
    have B3 := Lib.hid (B2.out.trans (b3.mono B2.out.size))
    clear x0 x1
    have p3 := PtsAt.own r3 (by have := hlen.out; omega)
    have P3 := Lib.hid p3
    obtain ⟨a3, c3, hu⟩ := p3.len
    subst hu
    clear p3 r3
    clear b3
    go_wp2_with fail
    refine (fQ.out _ _ P3.out).mono ?_
    rintro e w4 ⟨rfl, b4⟩
    have B4 := Lib.hid (B3.out.trans (b4.mono B3.out.size))
    clear b4
    go_wp2
    go_ret2
    exact ⟨.slice none 0 0, by rw [HE2.out]; rfl, by rw [HL.out]; exact PtsAt.nil _ _, B4.out⟩
  case true =>
    have HE2 : Hid (shE l d = 0) := HE.out.trans (if_pos hal)
    have HL : Hid (shL l d = mvL d l) := if_pos HE2.out
    have fQ := Lib.hid fQ
    clear hal
    go_enter Tryz.func89, Tryz.ntmps89
    go_wp2_with fail
    refine (fP.out _ BA.out).mono ?_
    rintro e w1 ⟨rfl, b1⟩
    have B1 := Lib.hid (BA.out.trans (b1.mono BA.out.size))
    have N1 := HN.out.below b1 hs0
    have x0 := N1.cell (i := 0) rfl
    have x1 := N1.cell (i := 1) rfl
    have HN1 := Lib.hid N1
    clear N1
    clear b1
    go_wp2_with fail
    refine (fI.out _).mono ?_
    rintro e w2 ⟨rfl, b2⟩
    have B2 := Lib.hid (B1.out.trans (b2.mono B1.out.size))
    clear x0 x1
    have N2 := HN1.out.below b2 HN1.out.lt
    have x0 := N2.cell (i := 0) rfl
    have x1 := N2.cell (i := 1) rfl
    clear N2
    clear b2
    go_wp2_with fail
    refine (fE.out _ B2.out).mono ?_
    rintro e w3 ⟨u, rfl, r3, b3⟩
    have B3 := Lib.hid (B2.out.trans (b3.mono B2.out.size))
    clear x0 x1
    have p3 := PtsAt.own r3 (by have := hlen.out; omega)
    have P3 := Lib.hid p3
    obtain ⟨a3, c3, hu⟩ := p3.len
    subst hu
    clear p3 r3
    clear b3
    go_wp2_with fail
    refine (fQ.out _ _ P3.out).mono ?_
    rintro e w4 ⟨rfl, b4⟩
    have B4 := Lib.hid (B3.out.trans (b4.mono B3.out.size))
    have P4 := Lib.hid ((P3.out.below b4).mono b4.size)
    clear b4
    go_wp2
    go_ret2
    exact ⟨_, by rw [HE2.out]; rfl, by rw [HL.out]; exact P4.out, B4.out⟩
end Go.Proofs.YtoekcefhphcjjaaGreat

namespace Go.Proofs.YtoekcefhphcjjaaGreat
open Go.RowKit
attribute [local irreducible] wpQuiet

theorem HeadInv.put {md : Region.Mode} {ops : Array Oper} {k j : Nat} {listed : Array Bool} (inv : HeadInv md ops k listed) (hr : (Region.ready md ops listed).contains j = true) (hlt : j < k) : HeadInv md ops k (listed.setIfInBounds j true) := inv.set (by simpa using hr) hlt
theorem rradius_any (n : Int) (w : World) :
    Calls Tryz.prog 49 #[.int .i64 n] w fun e w' => e = .returned (.bool (radOk n)) ∧ Below w.heap.size w w' := by
  by_cases h1 : 0 ≤ n
  · by_cases h2 : n ≤ 100000
    · have e : radOk n = true := by simp [radOk, h1, h2]
      rw [e]; clear e
      go_enter Tryz.func49, Tryz.ntmps49
      go_wp2
      go_ret
      exact ⟨rfl, by repeat (first | exact Below.refl _ _ | assumption | apply Below.drew | refine Below.setCell ?_ (by first | omega | (simp; done) | (simp; omega)) _ | refine Below.alloc ?_ (by first | omega | (simp; done) | (simp; omega)) _ | refine Below.call (by assumption) ?_ (by first | omega | (simp; done) | (simp; omega)))⟩
    · have e : radOk n = false := by simp [radOk]; omega
      have d : decide (n ≤ 100000) = false := by simpa using h2
      rw [e]; clear e h2
      go_enter Tryz.func49, Tryz.ntmps49
      go_wp2
      go_ret
      exact ⟨rfl, by repeat (first | exact Below.refl _ _ | assumption | apply Below.drew | refine Below.setCell ?_ (by first | omega | (simp; done) | (simp; omega)) _ | refine Below.alloc ?_ (by first | omega | (simp; done) | (simp; omega)) _ | refine Below.call (by assumption) ?_ (by first | omega | (simp; done) | (simp; omega)))⟩
  · have e : radOk n = false := by simp [radOk]; omega
    have d : decide (n ≥ 0) = false := by simpa using h1
    rw [e]; clear e h1
    go_enter Tryz.func49, Tryz.ntmps49
    go_wp2
    go_ret
    exact ⟨rfl, by repeat (first | exact Below.refl _ _ | assumption | apply Below.drew | refine Below.setCell ?_ (by first | omega | (simp; done) | (simp; omega)) _ | refine Below.alloc ?_ (by first | omega | (simp; done) | (simp; omega)) _ | refine Below.call (by assumption) ?_ (by first | omega | (simp; done) | (simp; omega)))⟩
set_option linter.unusedSimpArgs false in
set_option maxRecDepth 8000 in
set_option maxHeartbeats 1600000 in
theorem rdisk32_any (a : Pt) (n : Nat) (w : World) (hn : n ≤ 100000) :
    Calls Tryz.prog 50 #[.agg #[.int .i64 a.x, .int .i64 a.y], .int .i64 n] w fun e w' => ∃ u, e = .returned (.tuple #[u, .int .i64 (shE (diskP n) a)]) ∧ PtsAt w'.heap.size w' u (shL (diskP n) a) ∧ Below w.heap.size w w' := by
  have f1 := Lib.hid (fun w1 => disk6_any n w1 hn)
  have f2 := Lib.hid (fun v w1 h => rshift_any v (diskP n) a w1 h)
  have BA := Lib.hid ((Below.refl w.heap.size w).alloc (Nat.le_refl _) (.cells #[.int .i64 a.x, .int .i64 a.y] 23))
  have HN := Lib.hid (Has.new w #[.int .i64 a.x, .int .i64 a.y] 23)
  have hs0 : (w.alloc (.cells #[.int .i64 a.x, .int .i64 a.y] 23)).heap.size = w.heap.size + 1 := by simp
  go_enter Tryz.func50, Tryz.ntmps50
  go_wp2
  refine (wpIn_wide (n := 9)).1 ?_
  refine wpIn_region_sched (lets_wide _) 8 (fun X => Has X w.heap.size #[.int .i64 a.x, .int .i64 a.y] 23) (by kernel_rfl) (by kernel_rfl) (by kernel_rfl) fun hH inv0 => ?_
  refine sched_take hH (i := 0) (v := .int .i64 n) (drop_get rfl) (by omega) inv0 (by kernel_rfl) (by kernel_rfl) rfl (fun X hX => ?_) fun inv1 => ?_
  · go_simp
  simp only [Act.put, List.setIfInBounds_toArray, List.set_cons_zero, List.set_cons_succ]
  refine sched_take hH (i := 2) (v := .agg #[.int .i64 a.x, .int .i64 a.y]) (drop_get rfl) (by omega) inv1 (by kernel_rfl) (by kernel_rfl) rfl (fun X hX => ?_) fun inv2 => ?_
  · have hx := hX.cell (i := 0) rfl; have hy := hX.cell (i := 1) rfl; go_simp
  simp only [Act.put, List.setIfInBounds_toArray, List.set_cons_zero, List.set_cons_succ]
  have inv3 := HeadInv.put inv2 (j := 1) (by kernel_rfl) (by omega)
  have inv4 := HeadInv.put inv3 (j := 3) (by kernel_rfl) (by omega)
  have inv5 := HeadInv.put inv4 (j := 4) (by kernel_rfl) (by omega)
  clear inv0 inv1 inv2 inv3 inv4
  have HD : Hid (Below (w.heap.size + 1) (w.alloc (.cells #[.int .i64 a.x, .int .i64 a.y] 23)) (w.alloc (.cells #[.int .i64 a.x, .int .i64 a.y] 23)).drew) := Below.drew (Below.refl _ _)
  generalize (w.alloc (.cells #[.int .i64 a.x, .int .i64 a.y] 23)).drew = X0 at *
  have hz0 := HD.out.size
  have hX0 := HN.out.below HD.out (by omega)
  have B0 := Lib.hid (BA.out.trans (HD.out.mono (by omega)))
  refine sched_all (rs := [1]) (by kernel_rfl) (by simp) hX0 (by simp) (fun i hi' => ?_)
  simp only [List.mem_cons, List.not_mem_nil, or_false] at hi'
  subst hi'
  refine okOp_call (drop_get rfl) rfl (f := 90) (args := #[.int .i64 n]) (by go_simp) (f1.out X0) ?_
  rintro e w1 ⟨v1, rfl, p1, b1⟩
  refine ⟨v1, rfl, ?_⟩
  simp only [Act.put, List.setIfInBounds_toArray, List.set_cons_zero, List.set_cons_succ]
  have hX1 := hX0.below b1 hX0.lt
  have B1 := Lib.hid (B0.out.trans (b1.mono B0.out.size))
  have P1 := Lib.hid p1
  obtain ⟨a1, d1, hv1⟩ := p1.len
  subst hv1
  refine sched_all (rs := [3]) (by kernel_rfl) (by simp) hX1 (by simp) (fun i hi' => ?_)
  simp only [List.mem_cons, List.not_mem_nil, or_false] at hi'
  subst hi'
  refine okOp_call (drop_get rfl) rfl (f := 89) (args := #[.slice a1 (diskP n).length ((diskP n).length + d1), .agg #[.int .i64 a.x, .int .i64 a.y]]) (by go_simp) (f2.out _ _ P1.out) ?_
  rintro e w2 ⟨v2, rfl, p2, b2⟩
  refine ⟨_, rfl, ?_⟩
  simp only [Act.put, List.setIfInBounds_toArray, List.set_cons_zero, List.set_cons_succ]
  have hX2 := hX1.below b2 hX1.lt
  have B2 := Lib.hid (B1.out.trans (b2.mono B1.out.size))
  have P2 := Lib.hid p2
  obtain ⟨a2, d2, hv2⟩ := p2.len
  subst hv2
  refine sched_all (rs := [4]) (by kernel_rfl) (by simp) hX2 (by simp) (fun i hi' => ?_)
  simp only [List.mem_cons, List.not_mem_nil, or_false] at hi'
  subst hi'
  refine okOp_run (drop_get rfl) rfl (v := .tuple #[.slice a2 (shL (diskP n) a).length ((shL (diskP n) a).length + d2), .int .i64 (shE (diskP n) a)]) (w' := w2) (by go_simp) ?_
  simp only [Act.put, List.setIfInBounds_toArray, List.set_cons_zero, List.set_cons_succ]
  clear hX0 hX1 b1 p1 hz0 hs0 b2 p2
  refine sched_take hH (i := 5) (v := .slice a2 (shL (diskP n) a).length ((shL (diskP n) a).length + d2)) (drop_get rfl) (by omega) inv5 (by kernel_rfl) (by kernel_rfl) rfl (fun X hX => ?_) fun inv6 => ?_
  · go_simp
  simp only [Act.put, List.setIfInBounds_toArray, List.set_cons_zero, List.set_cons_succ]
  refine sched_take hH (i := 6) (v := .int .i64 (shE (diskP n) a)) (drop_get rfl) (by omega) inv6 (by kernel_rfl) (by kernel_rfl) rfl (fun X hX => ?_) fun inv7 => ?_
  · go_simp
  simp only [Act.put, List.setIfInBounds_toArray, List.set_cons_zero, List.set_cons_succ]
  clear inv5 inv6 inv7 hH
  refine sched_all (rs := [7]) (by kernel_rfl) (by simp) hX2 (by simp) (fun i hi' => ?_)
  simp only [List.mem_cons, List.not_mem_nil, or_false] at hi'
  subst hi'
  refine okOp_run (drop_get rfl) rfl (v := .slice a2 (shL (diskP n) a).length ((shL (diskP n) a).length + d2)) (w' := w2) (by go_simp) ?_
  simp only [Act.put, List.setIfInBounds_toArray, List.set_cons_zero, List.set_cons_succ]
  refine sched_done (by kernel_rfl) hX2 ?_
  simp only [List.drop_succ_cons, List.drop_zero]
  clear hX2
  gi_wp2
  go_wp2
  go_ret2
  exact ⟨_, rfl, P2.out, B2.out⟩
end Go.Proofs.YtoekcefhphcjjaaGreat
