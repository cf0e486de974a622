/- package hull: ends, Box. | package cut: turn, crosses, floor; the reference's Down, Up in a wider range, differ. | mission.up, mission.between; the reference's RootUp, Length, Lasts, Growth. -/
import Derived.Test.YtoekcefhphcjjaaBin05
import Derived.Test.YtoekcefhphcjjaaBin01
import Derived.Test.YtoekcefhphcjjaaBin06
import Derived.Test.YtoekcefhphcjjaaBin03
namespace Go.Proofs.Ytoekcefhphcjjaa
open Go.RowKit
attribute [local irreducible] wpQuiet

/-- the least, the greatest number that a function makes of the first k corners (and the first one) -/
def loTo (f : Pt → Int) (l : List Pt) : Nat → Int
  | 0 => f (nth l 0)
  | k + 1 => if f (nth l k) < loTo f l k then f (nth l k) else loTo f l k
def hiTo (f : Pt → Int) (l : List Pt) : Nat → Int
  | 0 => f (nth l 0)
  | k + 1 => if hiTo f l k < f (nth l k) then f (nth l k) else hiTo f l k
def bxF1 (p : Pt) : Int := p.x
def bxF2 (p : Pt) : Int := p.y

theorem bx_any_1 (x y : Int) (w : World) :
    Calls Try.prog 33 #[.agg #[.int .i64 x, .int .i64 y]] w fun e w' => e = .returned (.int .i64 (bxF1 ⟨x, y⟩)) ∧ Below w.heap.size w w' := by
  unfold bxF1
  go_enter Try.func33, Try.ntmps33
  go_wp2
  go_ret
  exact ⟨rfl, by repeat (first | exact Below.refl _ _ | assumption | apply Below.drew | refine Below.setCell ?_ (by first | omega | (simp; done) | (simp; omega)) _ | refine Below.alloc ?_ (by first | omega | (simp; done) | (simp; omega)) _ | refine Below.call (by assumption) ?_ (by first | omega | (simp; done) | (simp; omega)))⟩

set_option linter.unusedSimpArgs false in
set_option maxHeartbeats 800000 in
theorem ends_1 (v : Value) (l : List Pt) (w : World) (hp : PtsAt w.heap.size w v l) (h1 : 0 < l.length) :
    Calls Try.prog 32 #[v, .func (.func 33) #[] #[]] w fun e w' => e = .returned (.tuple #[.int .i64 (loTo bxF1 l l.length), .int .i64 (hiTo bxF1 l l.length)]) ∧ Below w.heap.size w w' := by
  obtain ⟨hl, a, cap, rfl, hc⟩ := hp
  obtain ⟨b, o, rfl, hb, hc⟩ : ∃ b o, a = some ⟨b, o, none⟩ ∧ b < w.heap.size ∧ ∀ j, j < l.length → w.cell? ⟨b, o + j * 2, none⟩ = some (.int .i64 (nth l j).x) ∧ w.cell? ⟨b, o + j * 2 + 1, none⟩ = some (.int .i64 (nth l j).y) := by
    rcases hc with h | h
    · rw [h] at h1; simp at h1
    · exact h
  obtain ⟨e0, e1⟩ := hc 0 h1
  rw [Nat.zero_mul, Nat.add_zero] at e0 e1
  have l0 := Low.fact e0
  have l1 := Low.fact e1
  have HC := Lib.hid hc
  have hf := bx_any_1 (nth l 0).x (nth l 0).y
  have hff : bxF1 ⟨(nth l 0).x, (nth l 0).y⟩ = loTo bxF1 l 0 := rfl
  rw [hff] at hf
  have hf' := Lib.hid hf
  have i0 : (0 : Int) < l.length := by omega
  have i1 : (0 : Int) ≤ 0 := by omega
  clear hc hf hff e0 e1
  generalize (nth l 0).x = p0 at *
  generalize (nth l 0).y = p1 at *
  go_enter Try.func32, Try.ntmps32
  go_wp2
  (refine wp_region_low (by kernel_rfl) (by kernel_rfl) ?_; (iterate 12 (apply quiet_want; (case hw => rfl); (case hval => (intro w1 hw1; have hcx := Low.cells hw1; simp only [Oper.quietAt]; go_simp; first | done | (first | (go_at_call 33; exact Low.calls hw1 (hf'.out _))) | rfl | exact ⟨rfl, rfl⟩)); simp only [Act.put, List.setIfInBounds_toArray, List.set_cons_zero, List.set_cons_succ])); refine wpQuiet_nil ?_; intro w2 hw2)
  have B2 := hw2.out
  have hH := Lib.hid (show loTo bxF1 l 0 = hiTo bxF1 l 0 from rfl)
  have HB := Lib.hid B2
  clear hw2 l0 l1 B2
  generalize w2 = w1 at *
  have hz1 := HB.out.size
  go_wp2
  go_loopw [6, 7, 22] (fun x y i wr => ∃ k : Nat, k ≤ l.length ∧ i = .int .i64 (k : Int) ∧ x = .int .i64 (loTo bxF1 l k) ∧ y = .int .i64 (hiTo bxF1 l k) ∧ Below w.heap.size w wr) (fun _ _ i _ => l.length - (intOf i).toNat)
  case atStart => exact ⟨0, by omega, rfl, rfl, rfl, HB.out⟩
  case round =>
    obtain ⟨k, hk, rfl, rfl, rfl, hB⟩ := hrel
    have hzB := hB.size
    by_cases hlt : k < l.length
    · obtain ⟨q0, q1⟩ := HC.out k hlt
      have e0 := (hB.cell (p := ⟨b, o + k * 2, none⟩) hb).trans q0
      have e1 := (hB.cell (p := ⟨b, o + k * 2 + 1, none⟩) hb).trans q1
      have hs : Hid (loTo bxF1 l (k + 1) = (if bxF1 ⟨(nth l k).x, (nth l k).y⟩ < loTo bxF1 l k then bxF1 ⟨(nth l k).x, (nth l k).y⟩ else loTo bxF1 l k) ∧ hiTo bxF1 l (k + 1) = (if hiTo bxF1 l k < bxF1 ⟨(nth l k).x, (nth l k).y⟩ then bxF1 ⟨(nth l k).x, (nth l k).y⟩ else hiTo bxF1 l k)) := ⟨rfl, rfl⟩
      have hf := Lib.hid (bx_any_1 (nth l k).x (nth l k).y)
      have dk : decide ((k : Int) < (l.length : Int)) = true := by simp; omega
      have kl : (k : Int) < l.length := by omega
      have k0 : (0 : Int) ≤ k := by omega
      have hBB := Lib.hid hB
      generalize bxF1 ⟨(nth l k).x, (nth l k).y⟩ = f0 at *
      generalize (nth l k).x = px at *
      generalize (nth l k).y = py at *
      generalize loTo bxF1 l k = lo at *
      generalize hiTo bxF1 l k = hi at *
      clear q0 q1 hB
      go_wp2
      have hN := Has.new wr #[.int .i64 px, .int .i64 py] 38
      have hBn := hBB.out.alloc hzB (.cells #[.int .i64 px, .int .i64 py] 38)
      have x0 : (wr.alloc (.cells #[.int .i64 px, .int .i64 py] 38)).cell? ⟨wr.heap.size, 0, none⟩ = some (.int .i64 px) := hN.cell (i := 0) rfl
      have x1 : (wr.alloc (.cells #[.int .i64 px, .int .i64 py] 38)).cell? ⟨wr.heap.size, 1, none⟩ = some (.int .i64 py) := hN.cell (i := 1) rfl
      have hlN := hN.lt
      have l0 := Low.fact x0
      have l1 := Low.fact x1
      have HN := Lib.hid hBn
      clear hN hBn x0 x1 e0 e1
      generalize wr.alloc (.cells #[.int .i64 px, .int .i64 py] 38) = w3 at *
      (refine wp_region_low (by kernel_rfl) (by kernel_rfl) ?_; (iterate 12 (apply quiet_want; (case hw => rfl); (case hval => (intro w1 hw1; have hcx := Low.cells hw1; simp only [Oper.quietAt]; go_simp; first | done | (first | (go_at_call 33; exact Low.calls hw1 (hf.out _))) | rfl | exact ⟨rfl, rfl⟩)); simp only [Act.put, List.setIfInBounds_toArray, List.set_cons_zero, List.set_cons_succ])); refine wpQuiet_nil ?_; intro w2 hw2)
      have HF := Lib.hid (HN.out.trans (hw2.out.mono HN.out.size))
      clear hw2 l0 l1
      go_wp2
      go_roundw
      case rel => exact ⟨k + 1, by omega, by go_num, by rw [hs.out.1], by rw [hs.out.2], HF.out⟩
      case measure => simp [intOf]; omega
    · obtain rfl : k = l.length := by omega
      have dk : decide ((l.length : Int) < (l.length : Int)) = false := by simp
      go_wp2
      go_ret2
      exact ⟨rfl, hB⟩
theorem bx_any_2 (x y : Int) (w : World) :
    Calls Try.prog 34 #[.agg #[.int .i64 x, .int .i64 y]] w fun e w' => e = .returned (.int .i64 (bxF2 ⟨x, y⟩)) ∧ Below w.heap.size w w' := by
  unfold bxF2
  go_enter Try.func34, Try.ntmps34
  go_wp2
  go_ret
  exact ⟨rfl, by repeat (first | exact Below.refl _ _ | assumption | apply Below.drew | refine Below.setCell ?_ (by first | omega | (simp; done) | (simp; omega)) _ | refine Below.alloc ?_ (by first | omega | (simp; done) | (simp; omega)) _ | refine Below.call (by assumption) ?_ (by first | omega | (simp; done) | (simp; omega)))⟩

set_option linter.unusedSimpArgs false in
set_option maxHeartbeats 800000 in
theorem ends_2 (v : Value) (l : List Pt) (w : World) (hp : PtsAt w.heap.size w v l) (h1 : 0 < l.length) :
    Calls Try.prog 32 #[v, .func (.func 34) #[] #[]] w fun e w' => e = .returned (.tuple #[.int .i64 (loTo bxF2 l l.length), .int .i64 (hiTo bxF2 l l.length)]) ∧ Below w.heap.size w w' := by
  obtain ⟨hl, a, cap, rfl, hc⟩ := hp
  obtain ⟨b, o, rfl, hb, hc⟩ : ∃ b o, a = some ⟨b, o, none⟩ ∧ b < w.heap.size ∧ ∀ j, j < l.length → w.cell? ⟨b, o + j * 2, none⟩ = some (.int .i64 (nth l j).x) ∧ w.cell? ⟨b, o + j * 2 + 1, none⟩ = some (.int .i64 (nth l j).y) := by
    rcases hc with h | h
    · rw [h] at h1; simp at h1
    · exact h
  obtain ⟨e0, e1⟩ := hc 0 h1
  rw [Nat.zero_mul, Nat.add_zero] at e0 e1
  have l0 := Low.fact e0
  have l1 := Low.fact e1
  have HC := Lib.hid hc
  have hf := bx_any_2 (nth l 0).x (nth l 0).y
  have hff : bxF2 ⟨(nth l 0).x, (nth l 0).y⟩ = loTo bxF2 l 0 := rfl
  rw [hff] at hf
  have hf' := Lib.hid hf
  have i0 : (0 : Int) < l.length := by omega
  have i1 : (0 : Int) ≤ 0 := by omega
  clear hc hf hff e0 e1
  generalize (nth l 0).x = p0 at *
  generalize (nth l 0).y = p1 at *
  go_enter Try.func32, Try.ntmps32
  go_wp2
  (refine wp_region_low (by kernel_rfl) (by kernel_rfl) ?_; (iterate 12 (apply quiet_want; (case hw => rfl); (case hval => (intro w1 hw1; have hcx := Low.cells hw1; simp only [Oper.quietAt]; go_simp; first | done | (first | (go_at_call 34; exact Low.calls hw1 (hf'.out _))) | rfl | exact ⟨rfl, rfl⟩)); simp only [Act.put, List.setIfInBounds_toArray, List.set_cons_zero, List.set_cons_succ])); refine wpQuiet_nil ?_; intro w2 hw2)
  have B2 := hw2.out
  have hH := Lib.hid (show loTo bxF2 l 0 = hiTo bxF2 l 0 from rfl)
  have HB := Lib.hid B2
  clear hw2 l0 l1 B2
  generalize w2 = w1 at *
  have hz1 := HB.out.size
  go_wp2
  go_loopw [6, 7, 22] (fun x y i wr => ∃ k : Nat, k ≤ l.length ∧ i = .int .i64 (k : Int) ∧ x = .int .i64 (loTo bxF2 l k) ∧ y = .int .i64 (hiTo bxF2 l k) ∧ Below w.heap.size w wr) (fun _ _ i _ => l.length - (intOf i).toNat)
  case atStart => exact ⟨0, by omega, rfl, rfl, rfl, HB.out⟩
  case round =>
    obtain ⟨k, hk, rfl, rfl, rfl, hB⟩ := hrel
    have hzB := hB.size
    by_cases hlt : k < l.length
    · obtain ⟨q0, q1⟩ := HC.out k hlt
      have e0 := (hB.cell (p := ⟨b, o + k * 2, none⟩) hb).trans q0
      have e1 := (hB.cell (p := ⟨b, o + k * 2 + 1, none⟩) hb).trans q1
      have hs : Hid (loTo bxF2 l (k + 1) = (if bxF2 ⟨(nth l k).x, (nth l k).y⟩ < loTo bxF2 l k then bxF2 ⟨(nth l k).x, (nth l k).y⟩ else loTo bxF2 l k) ∧ hiTo bxF2 l (k + 1) = (if hiTo bxF2 l k < bxF2 ⟨(nth l k).x, (nth l k).y⟩ then bxF2 ⟨(nth l k).x, (nth l k).y⟩ else hiTo bxF2 l k)) := ⟨rfl, rfl⟩
      have hf := Lib.hid (bx_any_2 (nth l k).x (nth l k).y)
      have dk : decide ((k : Int) < (l.length : Int)) = true := by simp; omega
      have kl : (k : Int) < l.length := by omega
      have k0 : (0 : Int) ≤ k := by omega
      have hBB := Lib.hid hB
      generalize bxF2 ⟨(nth l k).x, (nth l k).y⟩ = f0 at *
      generalize (nth l k).x = px at *
      generalize (nth l k).y = py at *
      generalize loTo bxF2 l k = lo at *
      generalize hiTo bxF2 l k = hi at *
      clear q0 q1 hB
      go_wp2
      have hN := Has.new wr #[.int .i64 px, .int .i64 py] 38
      have hBn := hBB.out.alloc hzB (.cells #[.int .i64 px, .int .i64 py] 38)
      have x0 : (wr.alloc (.cells #[.int .i64 px, .int .i64 py] 38)).cell? ⟨wr.heap.size, 0, none⟩ = some (.int .i64 px) := hN.cell (i := 0) rfl
      have x1 : (wr.alloc (.cells #[.int .i64 px, .int .i64 py] 38)).cell? ⟨wr.heap.size, 1, none⟩ = some (.int .i64 py) := hN.cell (i := 1) rfl
      have hlN := hN.lt
      have l0 := Low.fact x0
      have l1 := Low.fact x1
      have HN := Lib.hid hBn
      clear hN hBn x0 x1 e0 e1
      generalize wr.alloc (.cells #[.int .i64 px, .int .i64 py] 38) = w3 at *
      (refine wp_region_low (by kernel_rfl) (by kernel_rfl) ?_; (iterate 12 (apply quiet_want; (case hw => rfl); (case hval => (intro w1 hw1; have hcx := Low.cells hw1; simp only [Oper.quietAt]; go_simp; first | done | (first | (go_at_call 34; exact Low.calls hw1 (hf.out _))) | rfl | exact ⟨rfl, rfl⟩)); simp only [Act.put, List.setIfInBounds_toArray, List.set_cons_zero, List.set_cons_succ])); refine wpQuiet_nil ?_; intro w2 hw2)
      have HF := Lib.hid (HN.out.trans (hw2.out.mono HN.out.size))
      clear hw2 l0 l1
      go_wp2
      go_roundw
      case rel => exact ⟨k + 1, by omega, by go_num, by rw [hs.out.1], by rw [hs.out.2], HF.out⟩
      case measure => simp [intOf]; omega
    · obtain rfl : k = l.length := by omega
      have dk : decide ((l.length : Int) < (l.length : Int)) = false := by simp
      go_wp2
      go_ret2
      exact ⟨rfl, hB⟩
end Go.Proofs.Ytoekcefhphcjjaa

namespace Go.Proofs.Ytoekcefhphcjjaa
open Go.RowKit
attribute [local irreducible] wpQuiet



/-- two numbers have different signs -/
def crossB (s t : Int) : Bool := decide (s < 0 ∧ 0 < t ∨ 0 < s ∧ t < 0)

end Go.Proofs.Ytoekcefhphcjjaa

namespace Go.Proofs.Ytoekcefhphcjjaa
open Go.RowKit
attribute [local irreducible] wpQuiet

/-- the cells of a boxed mission -/
theorem msn_cells {W : World} {B : Nat} {m : Msn} {vw vh vr : Value} {T : TypeId} (H : Has W B (msnCells m vw vh vr) T) : W.cell? ⟨B, 0, none⟩ = some vw ∧ W.cell? ⟨B, 1, none⟩ = some vh ∧ W.cell? ⟨B, 2, none⟩ = some (.int .i64 m.start) ∧ W.cell? ⟨B, 3, none⟩ = some vr ∧ W.cell? ⟨B, 4, none⟩ = some (.int .i64 m.speed) ∧ W.cell? ⟨B, 5, none⟩ = some (.int .i64 m.part) ∧ W.cell? ⟨B, 6, none⟩ = some (.int .i64 m.flow) ∧ W.cell? ⟨B, 7, none⟩ = some (.int .i64 m.idle) ∧ W.cell? ⟨B, 8, none⟩ = some (.int .i64 m.drive) ∧ W.cell? ⟨B, 9, none⟩ = some (.int .i64 m.battery) ∧ W.cell? ⟨B, 10, none⟩ = some (.int .i64 m.deadline) :=
  ⟨H.cell (i := 0) rfl, H.cell (i := 1) rfl, H.cell (i := 2) rfl, H.cell (i := 3) rfl, H.cell (i := 4) rfl, H.cell (i := 5) rfl, H.cell (i := 6) rfl, H.cell (i := 7) rfl, H.cell (i := 8) rfl, H.cell (i := 9) rfl, H.cell (i := 10) rfl⟩
theorem msn_low {W : World} {B : Nat} {m : Msn} {vw vh vr : Value} {T : TypeId} (H : Has W B (msnCells m vw vh vr) T) : (∀ w1, Low W w1 → w1.cell? ⟨B, 0, none⟩ = some vw) ∧ (∀ w1, Low W w1 → w1.cell? ⟨B, 1, none⟩ = some vh) ∧ (∀ w1, Low W w1 → w1.cell? ⟨B, 2, none⟩ = some (.int .i64 m.start)) ∧ (∀ w1, Low W w1 → w1.cell? ⟨B, 3, none⟩ = some vr) ∧ (∀ w1, Low W w1 → w1.cell? ⟨B, 4, none⟩ = some (.int .i64 m.speed)) ∧ (∀ w1, Low W w1 → w1.cell? ⟨B, 5, none⟩ = some (.int .i64 m.part)) ∧ (∀ w1, Low W w1 → w1.cell? ⟨B, 6, none⟩ = some (.int .i64 m.flow)) ∧ (∀ w1, Low W w1 → w1.cell? ⟨B, 7, none⟩ = some (.int .i64 m.idle)) ∧ (∀ w1, Low W w1 → w1.cell? ⟨B, 8, none⟩ = some (.int .i64 m.drive)) ∧ (∀ w1, Low W w1 → w1.cell? ⟨B, 9, none⟩ = some (.int .i64 m.battery)) ∧ (∀ w1, Low W w1 → w1.cell? ⟨B, 10, none⟩ = some (.int .i64 m.deadline)) :=
  ⟨Low.fact (H.cell (i := 0) rfl), Low.fact (H.cell (i := 1) rfl), Low.fact (H.cell (i := 2) rfl), Low.fact (H.cell (i := 3) rfl), Low.fact (H.cell (i := 4) rfl), Low.fact (H.cell (i := 5) rfl), Low.fact (H.cell (i := 6) rfl), Low.fact (H.cell (i := 7) rfl), Low.fact (H.cell (i := 8) rfl), Low.fact (H.cell (i := 9) rfl), Low.fact (H.cell (i := 10) rfl)⟩

theorem up31_any (a b : Int) (w : World) (ha : 0 ≤ a) (ha' : a ≤ 1000000000000) (hb : 1 ≤ b) (hb' : b ≤ 1000000000000) :
    Calls Try.prog 53 #[.int .i64 a, .int .i64 b] w fun e w' => e = .returned (.int .i64 (cdiv a b)) ∧ Below w.heap.size w w' := by
  have e : ceilV a b = cdiv a b := by
    have : badQ a b = false := by simp [badQ, wideB_mk (n := a) (by omega) ha', wideB_mk (n := b) (by omega) hb']; omega
    simp [ceilV, this]
  rw [← e]; clear e
  go_enter Try.func53, Try.ntmps53
  go_wp2_with (go_at_call 66; refine (ceil_any _ _ _).mono ?_; rintro e w1 ⟨rfl, hb1⟩; have hz1 := hb1.size; try simp at hz1)
  go_ret
  exact ⟨rfl, by repeat (first | exact Below.refl _ _ | assumption | apply Below.drew | refine Below.setCell ?_ (by first | omega | (simp; done) | (simp; omega)) _ | refine Below.alloc ?_ (by first | omega | (simp; done) | (simp; omega)) _ | refine Below.call (by assumption) ?_ (by first | omega | (simp; done) | (simp; omega)))⟩




end Go.Proofs.Ytoekcefhphcjjaa
