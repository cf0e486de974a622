/- hull.Hull; package mink: isPlace, arePolygons, plus, each, Shift. | Plain geometry: disks, moved polygons, corridors. No program here. | package mink: isPlace, Shift, Disk. -/
import Derived.Test.YtoekcefhphcjjaaBin21
import Derived.Test.YtoekcefhphcjjaaBin17
namespace Go.Proofs.Ytoekcefhphcjjaa
open Go.RowKit
attribute [local irreducible] wpQuiet

theorem hullC1_any (x y : Int) (w : World) :
    Calls Try.prog 68 #[.agg #[.int .i64 x, .int .i64 y]] w fun e w' => e = .returned (.bool (!placeB x y)) ∧ Below w.heap.size w w' := by
  have f := Lib.hid (fun w1 => isPlace_any x y w1)
  generalize placeB x y = b at *
  go_enter Try.func68, Try.ntmps68
  go_wp2_with (go_at_call 29; refine (f.out _).mono ?_; rintro e w1 ⟨rfl, hb1⟩; have hz1 := hb1.size; try simp at hz1)
  go_ret
  exact ⟨rfl, by repeat (first | exact Below.refl _ _ | assumption | apply Below.drew | refine Below.setCell ?_ (by first | omega | (simp; done) | (simp; omega)) _ | refine Below.alloc ?_ (by first | omega | (simp; done) | (simp; omega)) _ | refine Below.call (by assumption) ?_ (by first | omega | (simp; done) | (simp; omega)))⟩
/-- an index is found, or -1 is returned -/
def FindQ (b : Bool) (w : World) (e : Ending) (w' : World) : Prop := ∃ r : Int, e = .returned (.int .i64 r) ∧ -1 ≤ r ∧ r ≤ 9223372036854775807 ∧ decide (0 ≤ r) = b ∧ Below w.heap.size w w'
theorem indexPts_any (v : Value) (l : List Pt) (w : World) (hp : PtsAt w.heap.size w v l) :
    Calls Try.prog 76 #[v, .func (.func 68) #[] #[]] w (FindQ (!allPl l) w) := by
  obtain ⟨hl, a, cap, rfl, hc⟩ := hp
  go_enter Try.func76, Try.ntmps76
  go_wp2
  go_loopw [8] (fun i wr => ∃ k : Nat, k ≤ l.length ∧ i = .int .i64 k ∧ (∀ j, j < k → placeP (nth l j) = true) ∧ Below w.heap.size w wr) (fun i _ => l.length - (intOf i).toNat)
  case atStart => exact ⟨0, Nat.zero_le _, rfl, fun j h => by omega, Below.refl _ _⟩
  case round =>
    obtain ⟨k, hk, rfl, hall, hB⟩ := hrel
    by_cases hlt : k < l.length
    · rcases hc with rfl | ⟨b, o, rfl, hb, hc⟩
      · simp at hlt
      have c1 := (hB.cell (p := ⟨b, o + k * 2, none⟩) hb).trans (hc k hlt).1
      have c2 := (hB.cell (p := ⟨b, o + k * 2 + 1, none⟩) hb).trans (hc k hlt).2
      have hall' := Lib.hid hall
      have hc' := Lib.hid hc
      clear hall hc
      have hz := hB.size
      have f := Lib.hid (fun w1 => hullC1_any (nth l k).x (nth l k).y w1)
      cases hpl : placeB (nth l k).x (nth l k).y
      · rw [hpl] at f
        have hr : Hid (allPl l = false) := by
          show allPl l = false
          simp only [allPl, decide_eq_false_iff_not]
          intro h
          have := h k hlt
          rw [placeP, hpl] at this
          cases this
        go_wp2_with (go_at_call 68; refine (f.out _).mono ?_; rintro e w1 ⟨rfl, hb1⟩; have hz1 := hb1.size; try simp at hz1)
        go_ret
        exact ⟨k, rfl, by omega, by omega, by rw [hr.out]; simp, by repeat (first | exact Below.refl _ _ | assumption | apply Below.drew | refine Below.setCell ?_ (by first | omega | (simp; done) | (simp; omega)) _ | refine Below.alloc ?_ (by first | omega | (simp; done) | (simp; omega)) _ | refine Below.call (by assumption) ?_ (by first | omega | (simp; done) | (simp; omega)))⟩
      · rw [hpl] at f
        go_wp2_with (go_at_call 68; refine (f.out _).mono ?_; rintro e w1 ⟨rfl, hb1⟩; have hz1 := hb1.size; try simp at hz1)
        go_roundw
        case rel =>
          refine ⟨k + 1, by omega, by go_num, fun j hj => ?_, by repeat (first | exact Below.refl _ _ | assumption | apply Below.drew | refine Below.setCell ?_ (by first | omega | (simp; done) | (simp; omega)) _ | refine Below.alloc ?_ (by first | omega | (simp; done) | (simp; omega)) _ | refine Below.call (by assumption) ?_ (by first | omega | (simp; done) | (simp; omega)))⟩
          by_cases e : j = k
          · rw [e]; exact hpl
          · exact hall'.out j (by omega)
        case measure => simp [intOf]; omega
    · have hr : Hid (allPl l = true) := by
        show allPl l = true
        simp only [allPl, decide_eq_true_eq]
        intro j hj
        exact hall j (by omega)
      clear hall
      go_wp2
      go_ret
      exact ⟨-1, rfl, by omega, by omega, by rw [hr.out]; simp, hB⟩
theorem containsPts_any (v : Value) (l : List Pt) (w : World) (hp : PtsAt w.heap.size w v l) :
    Calls Try.prog 67 #[v, .func (.func 68) #[] #[]] w fun e w' => e = .returned (.bool (!allPl l)) ∧ Below w.heap.size w w' := by
  go_enter Try.func67, Try.ntmps67
  go_wp2_with (go_at_call 76; refine (indexPts_any _ _ _ hp).mono ?_; rintro e w1 ⟨r, rfl, r1, r2, r3, hb⟩)
  go_ret
  exact ⟨by first | rfl | exact ret_bool r3, hb⟩
theorem allPl_iff {l : List Pt} : allPl l = true ↔ ∀ k, k < l.length → placeP (nth l k) = true := by simp [allPl]
/-- what Hull returns -/
noncomputable def hulE (l : List Pt) : Int := if 4000 < l.length then 2 else if l.length = 0 ∨ allPl l = false then 1 else if 64 < (hullP l).length then 2 else 0
noncomputable def hulL (l : List Pt) : List Pt := if hulE l = 0 then hullP l else []
set_option linter.unusedSimpArgs false in
set_option maxHeartbeats 1600000 in
theorem hull_any (v : Value) (l : List Pt) (w : World) (hp : PtsAt w.heap.size w v l) :
    Calls Try.prog 54 #[v] w fun e w' => ∃ u, e = .returned (.tuple #[u, .int .i64 (hulE l)]) ∧ PtsAt w'.heap.size w' u (hulL l) ∧ Below w.heap.size w w' := by
  have f1 := Lib.hid (containsPts_any v l w hp)
  have f2 := Lib.hid (fun w1 (B : Below w.heap.size w w1) h0 hs hpl => haround_any v l w1 ((hp.below B).mono B.size) h0 hs hpl)
  obtain ⟨a, cap, rfl⟩ := hp.len
  clear hp
  by_cases h1 : 4000 < l.length
  · have d1 : decide ((l.length : Int) > 4000) = true := by simp; omega
    have HE : Hid (hulE l = 2) := if_pos h1
    have HL : Hid (hulL l = []) := if_neg (by rw [HE.out]; omega)
    go_enter Try.func54, Try.ntmps54
    go_wp2
    go_ret2
    exact ⟨.slice none 0 0, by rw [HE.out]; rfl, by rw [HL.out]; exact PtsAt.nil _ _, Below.refl _ _⟩
  have d1 : decide ((l.length : Int) > 4000) = false := by simp; omega
  by_cases h2 : l.length = 0
  · have d2 : ((l.length : Int) == 0) = true := by rw [beq_iff_eq]; omega
    have HE : Hid (hulE l = 1) := (if_neg h1).trans (if_pos (.inl h2))
    have HL : Hid (hulL l = []) := if_neg (by rw [HE.out]; omega)
    go_enter Try.func54, Try.ntmps54
    go_wp2
    go_ret2
    exact ⟨.slice none 0 0, by rw [HE.out]; rfl, by rw [HL.out]; exact PtsAt.nil _ _, Below.refl _ _⟩
  have d2 : ((l.length : Int) == 0) = false := by rw [beq_eq_false_iff_ne]; omega
  cases h3 : allPl l
  · rw [h3] at f1
    have HE : Hid (hulE l = 1) := (if_neg h1).trans (if_pos (.inr h3))
    have HL : Hid (hulL l = []) := if_neg (by rw [HE.out]; omega)
    clear h3
    go_enter Try.func54, Try.ntmps54
    go_wp2_with fail
    refine f1.out.mono ?_
    rintro e w1 ⟨rfl, b1⟩
    have B1 := Lib.hid b1
    clear b1
    go_wp2
    go_ret2
    exact ⟨.slice none 0 0, by rw [HE.out]; rfl, by rw [HL.out]; exact PtsAt.nil _ _, B1.out⟩
  rw [h3] at f1
  have F2 := Lib.hid (fun w1 B => f2.out w1 B (by omega) (by omega) (allPl_iff.1 h3))
  have HE : Hid (hulE l = if 64 < (hullP l).length then 2 else 0) := (if_neg h1).trans (if_neg (by rintro (h | h); exact h2 h; rw [h3] at h; cases h))
  have hhl := hullP_len l
  clear h3 f2
  go_enter Try.func54, Try.ntmps54
  go_wp2_with fail
  refine f1.out.mono ?_
  rintro e w1 ⟨rfl, b1⟩
  have B1 := Lib.hid b1
  clear b1
  go_wp2_with fail
  refine (F2.out _ B1.out).mono ?_
  rintro e w2 ⟨v2, rfl, p2, b2⟩
  have B2 := Lib.hid (B1.out.trans (b2.mono B1.out.size))
  have P2 := Lib.hid p2
  obtain ⟨a2, c2, rfl⟩ := p2.len
  clear p2 b2
  by_cases h4 : 64 < (hullP l).length
  · have d4 : decide (((hullP l).length : Int) > 64) = true := by simp; omega
    rw [if_pos h4] at HE
    have HL : Hid (hulL l = []) := if_neg (by rw [HE.out]; omega)
    go_wp2
    go_ret2
    exact ⟨.slice none 0 0, by rw [HE.out]; rfl, by rw [HL.out]; exact PtsAt.nil _ _, B2.out⟩
  · have d4 : decide (((hullP l).length : Int) > 64) = false := by simp; omega
    rw [if_neg h4] at HE
    have HL : Hid (hulL l = hullP l) := if_pos HE.out
    go_wp2
    go_ret2
    exact ⟨.slice a2 (hullP l).length ((hullP l).length + c2), by rw [HE.out]; rfl, by rw [HL.out]; exact P2.out, B2.out⟩
/-- one point in a literal -/
theorem pts_one (W : World) (x y : Int) : PtsAt (W.alloc (.cells #[.int .i64 x, .int .i64 y] 38)).heap.size (W.alloc (.cells #[.int .i64 x, .int .i64 y] 38)) (.slice (some ⟨W.heap.size, 0, none⟩) 1 1) [⟨x, y⟩] :=
  pts_lit (l := [⟨x, y⟩]) (Has.new W #[.int .i64 x, .int .i64 y] 38) (by simp)
theorem hulE_one (p : Pt) : hulE [p] = if placeP p = true then 0 else 1 := by
  have h : hullP [p] = [p] := (hullP_eq (one_hull p)).symm
  have ha : allPl [p] = placeP p := by
    rw [Bool.eq_iff_iff, allPl_iff]
    exact ⟨fun h => h 0 (by simp), fun h k hk => by obtain rfl : k = 0 := (by simpa using hk); exact h⟩
  unfold hulE
  rw [h, ha]
  cases placeP p <;> simp
theorem arePoly1_any (v : Value) (l : List Pt) (w : World) (hp : PtsAt w.heap.size w v l) :
    Calls Try.prog 70 #[v] w fun e w' => e = .returned (.bool (!goValid l)) ∧ Below w.heap.size w w' := by
  have f := Lib.hid (hullValid_any v l w hp)
  clear hp
  generalize goValid l = b at *
  go_enter Try.func70, Try.ntmps70
  go_wp2_with (go_at_call 28; refine (f.out).mono ?_; rintro e w1 ⟨rfl, hb1⟩; have hz1 := hb1.size; try simp at hz1)
  go_ret
  exact ⟨rfl, by repeat (first | exact Below.refl _ _ | assumption | apply Below.drew | refine Below.setCell ?_ (by first | omega | (simp; done) | (simp; omega)) _ | refine Below.alloc ?_ (by first | omega | (simp; done) | (simp; omega)) _ | refine Below.call (by assumption) ?_ (by first | omega | (simp; done) | (simp; omega)))⟩
theorem indexPolys_any (v : Value) (l : List (List Pt)) (w : World) (hr : RocksAt w.heap.size w v l) :
    Calls Try.prog 63 #[v, .func (.func 70) #[] #[]] w (FindQ (!polysB l) w) := by
  obtain ⟨hl, a, cap, rfl, hc⟩ := hr
  go_enter Try.func63, Try.ntmps63
  go_wp2
  go_loopw [8] (fun i wr => ∃ k : Nat, k ≤ l.length ∧ i = .int .i64 k ∧ (∀ j, j < k → goValid (rk l j) = true) ∧ Below w.heap.size w wr) (fun i _ => l.length - (intOf i).toNat)
  case atStart => exact ⟨0, Nat.zero_le _, rfl, fun j h => by omega, Below.refl _ _⟩
  case round =>
    obtain ⟨k, hk, rfl, hall, hB⟩ := hrel
    by_cases hlt : k < l.length
    · rcases hc with rfl | ⟨b, o, rfl, hb, hc⟩
      · simp at hlt
      obtain ⟨u, hu, hpu⟩ := hc k hlt
      have c1 := (hB.cell (p := ⟨b, o + k, none⟩) hb).trans hu
      have f := Lib.hid (arePoly1_any u (rk l k) wr ((hpu.below hB).mono hB.size))
      have hall' := Lib.hid hall
      have hc' := Lib.hid hc
      clear hall hc hu hpu
      have hz := hB.size
      cases hpl : goValid (rk l k)
      · rw [hpl] at f
        have hr : Hid (polysB l = false) := by
          show polysB l = false
          simp only [polysB, decide_eq_false_iff_not]
          intro h
          have := h k hlt
          rw [hpl] at this
          cases this
        go_wp2_with (go_at_call 70; refine (f.out).mono ?_; rintro e w1 ⟨rfl, hb1⟩; have hz1 := hb1.size; try simp at hz1)
        go_ret
        exact ⟨k, rfl, by omega, by omega, by rw [hr.out]; simp, by repeat (first | exact Below.refl _ _ | assumption | apply Below.drew | refine Below.setCell ?_ (by first | omega | (simp; done) | (simp; omega)) _ | refine Below.alloc ?_ (by first | omega | (simp; done) | (simp; omega)) _ | refine Below.call (by assumption) ?_ (by first | omega | (simp; done) | (simp; omega)))⟩
      · rw [hpl] at f
        go_wp2_with (go_at_call 70; refine (f.out).mono ?_; rintro e w1 ⟨rfl, hb1⟩; have hz1 := hb1.size; try simp at hz1)
        go_roundw
        case rel =>
          refine ⟨k + 1, by omega, by go_num, fun j hj => ?_, by repeat (first | exact Below.refl _ _ | assumption | apply Below.drew | refine Below.setCell ?_ (by first | omega | (simp; done) | (simp; omega)) _ | refine Below.alloc ?_ (by first | omega | (simp; done) | (simp; omega)) _ | refine Below.call (by assumption) ?_ (by first | omega | (simp; done) | (simp; omega)))⟩
          by_cases e : j = k
          · rw [e]; exact hpl
          · exact hall'.out j (by omega)
        case measure => simp [intOf]; omega
    · have hr : Hid (polysB l = true) := by
        show polysB l = true
        simp only [polysB, decide_eq_true_eq]
        intro j hj
        exact hall j (by omega)
      clear hall
      go_wp2
      go_ret
      exact ⟨-1, rfl, by omega, by omega, by rw [hr.out]; simp, hB⟩
theorem containsPolys_any (v : Value) (l : List (List Pt)) (w : World) (hr : RocksAt w.heap.size w v l) :
    Calls Try.prog 40 #[v, .func (.func 70) #[] #[]] w fun e w' => e = .returned (.bool (!polysB l)) ∧ Below w.heap.size w w' := by
  go_enter Try.func40, Try.ntmps40
  go_wp2_with (go_at_call 63; refine (indexPolys_any _ _ _ hr).mono ?_; rintro e w1 ⟨r, rfl, r1, r2, r3, hb⟩)
  go_ret
  exact ⟨by first | rfl | exact ret_bool r3, hb⟩
theorem arePolys_any (v : Value) (l : List (List Pt)) (w : World) (hr : RocksAt w.heap.size w v l) :
    Calls Try.prog 55 #[v] w fun e w' => e = .returned (.bool (polysB l)) ∧ Below w.heap.size w w' := by
  have f := Lib.hid (containsPolys_any v l w hr)
  clear hr
  generalize polysB l = b at *
  go_enter Try.func55, Try.ntmps55
  go_wp2_with (go_at_call 40; refine (f.out).mono ?_; rintro e w1 ⟨rfl, hb1⟩; have hz1 := hb1.size; try simp at hz1)
  go_ret
  exact ⟨ret_bool (by simp), by repeat (first | exact Below.refl _ _ | assumption | apply Below.drew | refine Below.setCell ?_ (by first | omega | (simp; done) | (simp; omega)) _ | refine Below.alloc ?_ (by first | omega | (simp; done) | (simp; omega)) _ | refine Below.call (by assumption) ?_ (by first | omega | (simp; done) | (simp; omega)))⟩
end Go.Proofs.Ytoekcefhphcjjaa

namespace Go.Proofs.Ytoekcefhphcjjaa


/-- the disk's corners about 0, as the reference lays them; as the program does -/
def oct0 (n k : Int) : List Pt := [⟨n, -k⟩, ⟨n, k⟩, ⟨k, n⟩, ⟨-k, n⟩, ⟨-n, k⟩, ⟨-n, -k⟩, ⟨-k, -n⟩, ⟨k, -n⟩]
def octG (n k : Int) : List Pt := [⟨-n, -k⟩, ⟨-k, -n⟩, ⟨-n, k⟩, ⟨-k, n⟩, ⟨n, -k⟩, ⟨k, -n⟩, ⟨n, k⟩, ⟨k, n⟩]
theorem oct_same (n k : Int) : ∀ x, x ∈ octG n k ↔ x ∈ oct0 n k := by
  intro x
  simp only [octG, oct0, List.mem_cons, List.not_mem_nil, or_false]
  constructor
  · rintro (h | h | h | h | h | h | h | h) <;> simp [h]
  · rintro (h | h | h | h | h | h | h | h) <;> simp [h]
/-- the disk of a radius -/
noncomputable def diskP (n : Nat) : List Pt := hullP (oct0 n (octK n))
theorem diskG (n : Nat) : hullP (octG n (octK n)) = diskP n := hullP_congr (oct_same _ _)
theorem oct_place {n : Nat} (h : n ≤ 100000) {x : Pt} (hx : x ∈ oct0 n (octK n)) : (-(n : Int) ≤ x.x ∧ x.x ≤ n ∧ -(n : Int) ≤ x.y ∧ x.y ≤ n) ∧ placeP x = true := by
  have k := octK_bd n
  rw [place_iff]
  simp only [oct0, List.mem_cons, List.not_mem_nil, or_false] at hx
  rcases hx with rfl | rfl | rfl | rfl | rfl | rfl | rfl | rfl
  all_goals (simp only; omega)
theorem disk_len (n : Nat) : (diskP n).length ≤ 8 := hullP_len _
theorem disk_valid {n : Nat} (h : n ≤ 100000) : GoValid (diskP n) := hull_valid (hullP_of _) (by simp [oct0]) (by have := disk_len n; omega) fun _ hx => (oct_place h hx).2
/-- a polygon that is moved is one, if all its corners are places -/
theorem goValid_mv {l : List Pt} (d : Pt) (h : GoValid l) : goValid (mvL d l) = allPl (mvL d l) := by
  rw [Bool.eq_iff_iff, allPl_iff]
  constructor
  · intro hv k hk
    exact ((goValid_true hv).2.2.1 k hk).1
  · intro hp
    refine goValid_of ⟨by rw [mvL_len]; exact h.1, by rw [mvL_len]; exact h.2.1, fun k hk => ⟨hp k hk, fun h0 => ?_⟩, fun h3 i hi j hj n1 n2 => ?_⟩
    · rw [mvL_len] at hk
      rw [nth_mvL d (by omega), nth_mvL d hk, cmp_mv]
      exact (h.2.2.1 k hk).2 h0
    · rw [mvL_len] at h3 hi hj
      rw [side_mv d hi, nth_mvL d hj] at n1 n2 ⊢
      have := h.2.2.2 h3 i hi j hj (fun e => n1 (by rw [e]; rfl)) (fun e => n2 (by rw [e]; rfl))
      show 0 < turnP (mvP d _) (mvP d _) (mvP d _)
      rw [turn_mv]; exact this
/-- what Shift returns -/
noncomputable def shE (l : List Pt) (d : Pt) : Int := if goValid l = true ∧ placeP d = true then (if allPl (mvL d l) = true then 0 else 3) else 1
noncomputable def shL (l : List Pt) (d : Pt) : List Pt := if shE l d = 0 then mvL d l else []
/-- the number is a radius -/
def radOk (n : Int) : Bool := decide (0 ≤ n ∧ n ≤ 100000)
/-- what Corridor returns -/
noncomputable def corE (a : Pt) (u : Int) (b : Pt) (v : Int) : Int :=
  if placeP a = true ∧ placeP b = true ∧ radOk u = true ∧ radOk v = true then (if allPl (mvL a (diskP u.toNat)) = true ∧ allPl (mvL b (diskP v.toNat)) = true then 0 else 3) else 1
noncomputable def corH (a : Pt) (u : Nat) (b : Pt) (v : Nat) : List Pt := hullP (mvL a (diskP u) ++ mvL b (diskP v))
noncomputable def corL (a : Pt) (u : Int) (b : Pt) (v : Int) : List Pt := if corE a u b v = 0 then corH a u.toNat b v.toNat else []
theorem corH_len (a : Pt) (u : Nat) (b : Pt) (v : Nat) : (corH a u b v).length ≤ 16 := by
  have h := hullP_len (mvL a (diskP u) ++ mvL b (diskP v))
  rw [List.length_append, mvL_len, mvL_len] at h
  have := disk_len u
  have := disk_len v
  unfold corH; omega
theorem cmem_nth {l : List Pt} {x : Pt} : x ∈ l ↔ ∃ k, k < l.length ∧ nth l k = x := ⟨mem_nth', fun ⟨_, hk, e⟩ => e ▸ nth_mem' hk⟩
theorem allPl_mem {l : List Pt} : allPl l = true ↔ ∀ x, x ∈ l → placeP x = true := by
  rw [allPl_iff]
  exact ⟨fun h x hx => by obtain ⟨k, hk, rfl⟩ := cmem_nth.1 hx; exact h k hk, fun h k hk => h _ (nth_mem' hk)⟩
theorem cor_ne {a : Pt} {u : Nat} {b : Pt} {v : Nat} : mvL a (diskP u) ++ mvL b (diskP v) ≠ [] := by
  have h1 := (hullP_of (oct0 u (octK u))).some (by simp [oct0])
  intro h
  have h2 := congrArg List.length h
  rw [List.length_append, mvL_len] at h2
  unfold diskP at h2
  simp at h2
  rw [h2.1] at h1; simp at h1
theorem corE_zero {a : Pt} {u : Int} {b : Pt} {v : Int} (h : corE a u b v = 0) : (placeP a = true ∧ placeP b = true ∧ 0 ≤ u ∧ u ≤ 100000 ∧ 0 ≤ v ∧ v ≤ 100000) ∧ allPl (mvL a (diskP u.toNat)) = true ∧ allPl (mvL b (diskP v.toNat)) = true := by
  unfold corE at h
  split at h
  · rename_i h1
    have r1 : 0 ≤ u ∧ u ≤ 100000 := by simpa [radOk] using h1.2.2.1
    have r2 : 0 ≤ v ∧ v ≤ 100000 := by simpa [radOk] using h1.2.2.2
    split at h
    · rename_i h2
      exact ⟨⟨h1.1, h1.2.1, r1.1, r1.2, r2.1, r2.2⟩, h2⟩
    · cases h
  · cases h
/-- the corridor is a polygon -/
theorem cor_valid {a : Pt} {u : Int} {b : Pt} {v : Int} (h : corE a u b v = 0) : GoValid (corH a u.toNat b v.toNat) := by
  obtain ⟨_, h1, h2⟩ := corE_zero h
  rw [allPl_mem] at h1 h2
  refine hull_valid (hullP_of _) cor_ne (by have := corH_len a u.toNat b v.toNat; omega) fun x hx => ?_
  rcases List.mem_append.1 hx with h | h
  · exact h1 x h
  · exact h2 x h
end Go.Proofs.Ytoekcefhphcjjaa

namespace Go.Proofs.Ytoekcefhphcjjaa
open Go.RowKit
attribute [local irreducible] wpQuiet
attribute [local irreducible] hulE hulL

set_option maxHeartbeats 800000 in
set_option maxRecDepth 8000 in
theorem misPlace_any (x y : Int) (w : World) :
    Calls Try.prog 56 #[.agg #[.int .i64 x, .int .i64 y]] w fun e w' => e = .returned (.bool (placeB x y)) ∧ Below w.heap.size w w' := by
  have hA := (Below.refl w.heap.size w).alloc (Nat.le_refl _) (.cells #[.int .i64 x, .int .i64 y] 38)
  have hs : (w.alloc (.cells #[.int .i64 x, .int .i64 y] 38)).heap.size = w.heap.size + 1 := by simp
  have f := hull_any _ _ _ (pts_one (w.alloc (.cells #[.int .i64 x, .int .i64 y] 38)) x y)
  rw [hs] at f
  have B0 := Lib.hid (hA.alloc hA.size (.cells #[.int .i64 x, .int .i64 y] 38))
  have he : hulE [⟨x, y⟩] = if placeB x y = true then 0 else 1 := hulE_one ⟨x, y⟩
  rw [he] at f
  have f := Lib.hid f
  clear hA he hs
  cases hp : placeB x y
  · rw [hp] at f
    go_enter Try.func56, Try.ntmps56
    go_wp2_with fail
    refine f.out.mono ?_
    rintro e w1 ⟨u, rfl, _, b1⟩
    have B1 := Lib.hid (B0.out.trans (b1.mono B0.out.size))
    clear b1
    go_wp2
    go_ret
    exact ⟨rfl, B1.out⟩
  · rw [hp] at f
    go_enter Try.func56, Try.ntmps56
    go_wp2_with fail
    refine f.out.mono ?_
    rintro e w1 ⟨u, rfl, _, b1⟩
    have B1 := Lib.hid (B0.out.trans (b1.mono B0.out.size))
    clear b1
    go_wp2
    go_ret
    exact ⟨rfl, B1.out⟩
/-- one list in a literal -/
theorem rocks_one {W : World} {v : Value} {l : List Pt} (n : Nat) (hn : n = W.heap.size) (hp : PtsAt W.heap.size W v l) : RocksAt (W.alloc (.cells #[v] 23)).heap.size (W.alloc (.cells #[v] 23)) (.slice (some ⟨n, 0, none⟩) 1 1) [l] := by
  subst hn
  have h := Has.new W #[v] 23
  have B := (Below.refl W.heap.size W).alloc (Nat.le_refl _) (.cells #[v] 23)
  refine ⟨by simp, some ⟨W.heap.size, 0, none⟩, 0, rfl, .inr ⟨W.heap.size, 0, rfl, by simp, fun j hj => ?_⟩⟩
  obtain rfl : j = 0 := by simpa using hj
  exact ⟨v, h.cell (i := 0) rfl, (hp.below B).mono B.size⟩
theorem polys_one (l : List Pt) : polysB [l] = goValid l := by
  rw [Bool.eq_iff_iff, polysB_iff]
  exact ⟨fun h => h 0 (by simp), fun h j hj => by obtain rfl : j = 0 := (by simpa using hj); exact h⟩
theorem shE_no {l : List Pt} {d : Pt} (h : goValid l = false ∨ placeP d = false) : shE l d = 1 ∧ shL l d = [] := by
  have : shE l d = 1 := if_neg (by rintro ⟨a, b⟩; rcases h with h | h <;> simp_all)
  exact ⟨this, if_neg (by rw [this]; omega)⟩
set_option linter.unusedSimpArgs false in
set_option maxRecDepth 8000 in
set_option maxHeartbeats 1600000 in
theorem mshift_any (v : Value) (l : List Pt) (d : Pt) (w : World) (hp : PtsAt w.heap.size w v l) :
    Calls Try.prog 26 #[v, .agg #[.int .i64 d.x, .int .i64 d.y]] w fun e w' => ∃ u, e = .returned (.tuple #[u, .int .i64 (shE l d)]) ∧ PtsAt w'.heap.size w' u (shL l d) ∧ Below w.heap.size w w' := by
  have fP := fun n w1 (hn : n = w1.heap.size) (B : Below w.heap.size w w1) => arePolys_any (.slice (some ⟨n, 0, none⟩) 1 1) [l] (w1.alloc (.cells #[v] 23)) (rocks_one n hn ((hp.below B).mono B.size))
  rw [polys_one] at fP
  have HP := Lib.hid hp
  have HA := Lib.hid ((Below.refl w.heap.size w).alloc (Nat.le_refl _) (.cells #[.int .i64 d.x, .int .i64 d.y] 38))
  have HN := Lib.hid (Has.new w #[.int .i64 d.x, .int .i64 d.y] 38)
  obtain ⟨a, cap, hvv⟩ := hp.len
  subst hvv
  clear hp
  have BB := Lib.hid (fun w1 (B : Below w.heap.size w w1) => B.alloc B.size (.cells #[.slice a l.length (l.length + cap)] 23))
  cases hv : goValid l
  · rw [hv] at fP
    obtain ⟨e1, e2⟩ := shE_no (d := d) (.inl hv)
    have HE := Lib.hid e1
    have HL := Lib.hid e2
    have fP := Lib.hid fP
    clear hv e1 e2
    go_enter Try.func26, Try.ntmps26
    go_wp2_with fail
    refine (fP.out _ _ (by simp) HA.out).mono ?_
    rintro e w1 ⟨rfl, b1⟩
    have B1 := Lib.hid ((BB.out _ HA.out).trans (b1.mono (BB.out _ HA.out).size))
    clear b1
    go_wp2
    go_ret2
    exact ⟨.slice none 0 0, by rw [HE.out]; rfl, by rw [HL.out]; exact PtsAt.nil _ _, B1.out⟩
  rw [hv] at fP
  have fP := Lib.hid fP
  have GV := Lib.hid (goValid_true hv)
  have HV := Lib.hid hv
  clear hv
  cases hd : placeP d
  · obtain ⟨e1, e2⟩ := shE_no (l := l) (.inr hd)
    have HE := Lib.hid e1
    have HL := Lib.hid e2
    have fI := fun w1 => misPlace_any d.x d.y w1
    rw [show placeB d.x d.y = false from hd] at fI
    have fI := Lib.hid fI
    clear hd e1 e2
    go_enter Try.func26, Try.ntmps26
    go_wp2_with fail
    refine (fP.out _ _ (by simp) HA.out).mono ?_
    rintro e w1 ⟨rfl, b1⟩
    have B1 := Lib.hid ((BB.out _ HA.out).trans (b1.mono (BB.out _ HA.out).size))
    have N1 := (HN.out.below ((Below.refl _ _).alloc (Nat.le_refl _) _) (by simp)).below b1 (by simp; omega)
    have x0 := N1.cell (i := 0) rfl
    have x1 := N1.cell (i := 1) rfl
    clear b1 N1
    go_wp2_with fail
    refine (fI.out _).mono ?_
    rintro e w2 ⟨rfl, b2⟩
    have B2 := Lib.hid (B1.out.trans (b2.mono B1.out.size))
    clear b2 x0 x1
    go_wp2
    go_ret2
    exact ⟨.slice none 0 0, by rw [HE.out]; rfl, by rw [HL.out]; exact PtsAt.nil _ _, B2.out⟩
  have HE : Hid (shE l d = if allPl (mvL d l) = true then 0 else 3) := if_pos ⟨HV.out, hd⟩
  have fI := fun w1 => misPlace_any d.x d.y w1
  rw [show placeB d.x d.y = true from hd] at fI
  have fI := Lib.hid fI
  have fE := Lib.hid (fun w1 (B : Below w.heap.size w w1) (N : Has w1 w.heap.size #[.int .i64 d.x, .int .i64 d.y] 38) => each_any (.slice a l.length (l.length + cap)) l w.heap.size d w1 ((HP.out.below B).mono B.size) N GV.out.2.1 (fun k hk => (GV.out.2.2.1 k hk).1) hd)
  have fQ := fun u n w1 (hn : n = w1.heap.size) (P : PtsAt w1.heap.size w1 u (mvL d l)) => arePolys_any (.slice (some ⟨n, 0, none⟩) 1 1) [mvL d l] (w1.alloc (.cells #[u] 23)) (rocks_one n hn P)
  rw [polys_one, goValid_mv d GV.out] at fQ
  have fQ := Lib.hid fQ
  clear hd
  go_enter Try.func26, Try.ntmps26
  go_wp2_with fail
  refine (fP.out _ _ (by simp) HA.out).mono ?_
  rintro e w1 ⟨rfl, b1⟩
  have B1 := Lib.hid ((BB.out _ HA.out).trans (b1.mono (BB.out _ HA.out).size))
  have N1 := (HN.out.below ((Below.refl _ _).alloc (Nat.le_refl _) _) (by simp)).below b1 (by simp; omega)
  have x0 := N1.cell (i := 0) rfl
  have x1 := N1.cell (i := 1) rfl
  have HN1 := Lib.hid N1
  clear b1 N1
  go_wp2_with fail
  refine (fI.out _).mono ?_
  rintro e w2 ⟨rfl, b2⟩
  have B2 := Lib.hid (B1.out.trans (b2.mono B1.out.size))
  have HN2 := Lib.hid (HN1.out.below b2 HN1.out.lt)
  clear b2 x0 x1
  go_wp2_with fail
  refine (fE.out _ B2.out HN2.out).mono ?_
  rintro e w3 ⟨u, rfl, p3, b3⟩
  have B3 := Lib.hid (B2.out.trans (b3.mono B2.out.size))
  have P3 := Lib.hid p3
  obtain ⟨a3, c3, hu⟩ := p3.len
  subst hu
  have BA := Lib.hid ((Below.refl w3.heap.size w3).alloc (Nat.le_refl _) (.cells #[.slice a3 (mvL d l).length ((mvL d l).length + c3)] 23))
  clear p3 b3
  cases hal : allPl (mvL d l)
  · rw [hal] at fQ
    have HE2 : Hid (shE l d = 3) := HE.out.trans (if_neg (by rw [hal]; simp))
    have HL : Hid (shL l d = []) := if_neg (by rw [HE2.out]; omega)
    clear hal
    go_wp2_with fail
    refine (fQ.out _ _ _ rfl P3.out).mono ?_
    rintro e w4 ⟨rfl, b4⟩
    have B4 := Lib.hid (B3.out.trans ((BA.out.trans (b4.mono BA.out.size)).mono B3.out.size))
    clear b4
    go_wp2
    go_ret2
    exact ⟨.slice none 0 0, by rw [HE2.out]; rfl, by rw [HL.out]; exact PtsAt.nil _ _, B4.out⟩
  · rw [hal] at fQ
    have HE2 : Hid (shE l d = 0) := HE.out.trans (if_pos hal)
    have HL : Hid (shL l d = mvL d l) := if_pos HE2.out
    clear hal
    go_wp2_with fail
    refine (fQ.out _ _ _ rfl P3.out).mono ?_
    rintro e w4 ⟨rfl, b4⟩
    have C4 := BA.out.trans (b4.mono BA.out.size)
    have B4 := Lib.hid (B3.out.trans (C4.mono B3.out.size))
    have P4 := Lib.hid ((P3.out.below C4).mono C4.size)
    clear b4 C4
    go_wp2
    go_ret2
    exact ⟨_, by rw [HE2.out]; rfl, by rw [HL.out]; exact P4.out, B4.out⟩
end Go.Proofs.Ytoekcefhphcjjaa
