/- package hull: ends, Box. -/
import Derived.Test.YtjjkmonfihomnaaHullV
namespace Go.Proofs.Ytjjkmonfihomnaa
open Go.RowKit
attribute [local irreducible] wpQuiet

/-- the least, the greatest number that a function makes of the first k corners (and the first one) -/
def loTo (f : Pt → Int) (l : List Pt) : Nat → Int
  | 0 => f (nth l 0)
  | k + 1 => if f (nth l k) < loTo f l k then f (nth l k) else loTo f l k
def hiTo (f : Pt → Int) (l : List Pt) : Nat → Int
  | 0 => f (nth l 0)
  | k + 1 => if hiTo f l k < f (nth l k) then f (nth l k) else hiTo f l k
def bxF1 (p : Pt) : Int := p.x
def bxF2 (p : Pt) : Int := p.y

theorem bx_any_1 (x y : Int) (w : World) :
    Calls Try.prog 74 #[.agg #[.int .i64 x, .int .i64 y]] w fun e w' => e = .returned (.int .i64 (bxF1 ⟨x, y⟩)) ∧ Below w.heap.size w w' := by
  unfold bxF1
  go_enter Try.func74, Try.ntmps74
  go_wp2
  go_ret
  exact ⟨rfl, by repeat (first | exact Below.refl _ _ | assumption | apply Below.drew | refine Below.setCell ?_ (by first | omega | (simp; done) | (simp; omega)) _ | refine Below.alloc ?_ (by first | omega | (simp; done) | (simp; omega)) _ | refine Below.call (by assumption) ?_ (by first | omega | (simp; done) | (simp; omega)))⟩

set_option linter.unusedSimpArgs false in
set_option maxHeartbeats 800000 in
theorem ends_1 (v : Value) (l : List Pt) (w : World) (hp : PtsAt w.heap.size w v l) (h1 : 0 < l.length) :
    Calls Try.prog 73 #[v, .func (.func 74) #[] #[]] w fun e w' => e = .returned (.tuple #[.int .i64 (loTo bxF1 l l.length), .int .i64 (hiTo bxF1 l l.length)]) ∧ Below w.heap.size w w' := by
  obtain ⟨hl, a, cap, rfl, hc⟩ := hp
  obtain ⟨b, o, rfl, hb, hc⟩ : ∃ b o, a = some ⟨b, o, none⟩ ∧ b < w.heap.size ∧ ∀ j, j < l.length → w.cell? ⟨b, o + j * 2, none⟩ = some (.int .i64 (nth l j).x) ∧ w.cell? ⟨b, o + j * 2 + 1, none⟩ = some (.int .i64 (nth l j).y) := by
    rcases hc with h | h
    · rw [h] at h1; simp at h1
    · exact h
  obtain ⟨e0, e1⟩ := hc 0 h1
  rw [Nat.zero_mul, Nat.add_zero] at e0 e1
  have l0 := Low.fact e0
  have l1 := Low.fact e1
  have HC := Lib.hid hc
  have hf := bx_any_1 (nth l 0).x (nth l 0).y
  have hff : bxF1 ⟨(nth l 0).x, (nth l 0).y⟩ = loTo bxF1 l 0 := rfl
  rw [hff] at hf
  have hf' := Lib.hid hf
  have i0 : (0 : Int) < l.length := by omega
  have i1 : (0 : Int) ≤ 0 := by omega
  clear hc hf hff e0 e1
  generalize (nth l 0).x = p0 at *
  generalize (nth l 0).y = p1 at *
  go_enter Try.func73, Try.ntmps73
  go_wp2
  (refine wp_region_low (by kernel_rfl) (by kernel_rfl) ?_; (iterate 12 (apply quiet_want; (case hw => rfl); (case hval => (intro w1 hw1; have hcx := Low.cells hw1; simp only [Oper.quietAt]; go_simp; first | done | (first | (go_at_call 74; exact Low.calls hw1 (hf'.out _))) | rfl | exact ⟨rfl, rfl⟩)); simp only [Act.put, List.setIfInBounds_toArray, List.set_cons_zero, List.set_cons_succ])); refine wpQuiet_nil ?_; intro w2 hw2)
  have B2 := hw2.out
  have hH := Lib.hid (show loTo bxF1 l 0 = hiTo bxF1 l 0 from rfl)
  have HB := Lib.hid B2
  clear hw2 l0 l1 B2
  generalize w2 = w1 at *
  have hz1 := HB.out.size
  go_wp2
  go_loopw [6, 7, 22] (fun x y i wr => ∃ k : Nat, k ≤ l.length ∧ i = .int .i64 (k : Int) ∧ x = .int .i64 (loTo bxF1 l k) ∧ y = .int .i64 (hiTo bxF1 l k) ∧ Below w.heap.size w wr) (fun _ _ i _ => l.length - (intOf i).toNat)
  case atStart => exact ⟨0, by omega, rfl, rfl, rfl, HB.out⟩
  case round =>
    obtain ⟨k, hk, rfl, rfl, rfl, hB⟩ := hrel
    have hzB := hB.size
    by_cases hlt : k < l.length
    · obtain ⟨q0, q1⟩ := HC.out k hlt
      have e0 := (hB.cell (p := ⟨b, o + k * 2, none⟩) hb).trans q0
      have e1 := (hB.cell (p := ⟨b, o + k * 2 + 1, none⟩) hb).trans q1
      have hs : Hid (loTo bxF1 l (k + 1) = (if bxF1 ⟨(nth l k).x, (nth l k).y⟩ < loTo bxF1 l k then bxF1 ⟨(nth l k).x, (nth l k).y⟩ else loTo bxF1 l k) ∧ hiTo bxF1 l (k + 1) = (if hiTo bxF1 l k < bxF1 ⟨(nth l k).x, (nth l k).y⟩ then bxF1 ⟨(nth l k).x, (nth l k).y⟩ else hiTo bxF1 l k)) := ⟨rfl, rfl⟩
      have hf := Lib.hid (bx_any_1 (nth l k).x (nth l k).y)
      have dk : decide ((k : Int) < (l.length : Int)) = true := by simp; omega
      have kl : (k : Int) < l.length := by omega
      have k0 : (0 : Int) ≤ k := by omega
      have hBB := Lib.hid hB
      generalize bxF1 ⟨(nth l k).x, (nth l k).y⟩ = f0 at *
      generalize (nth l k).x = px at *
      generalize (nth l k).y = py at *
      generalize loTo bxF1 l k = lo at *
      generalize hiTo bxF1 l k = hi at *
      clear q0 q1 hB
      go_wp2
      have hN := Has.new wr #[.int .i64 px, .int .i64 py] 31
      have hBn := hBB.out.alloc hzB (.cells #[.int .i64 px, .int .i64 py] 31)
      have x0 : (wr.alloc (.cells #[.int .i64 px, .int .i64 py] 31)).cell? ⟨wr.heap.size, 0, none⟩ = some (.int .i64 px) := hN.cell (i := 0) rfl
      have x1 : (wr.alloc (.cells #[.int .i64 px, .int .i64 py] 31)).cell? ⟨wr.heap.size, 1, none⟩ = some (.int .i64 py) := hN.cell (i := 1) rfl
      have hlN := hN.lt
      have l0 := Low.fact x0
      have l1 := Low.fact x1
      have HN := Lib.hid hBn
      clear hN hBn x0 x1 e0 e1
      generalize wr.alloc (.cells #[.int .i64 px, .int .i64 py] 31) = w3 at *
      (refine wp_region_low (by kernel_rfl) (by kernel_rfl) ?_; (iterate 12 (apply quiet_want; (case hw => rfl); (case hval => (intro w1 hw1; have hcx := Low.cells hw1; simp only [Oper.quietAt]; go_simp; first | done | (first | (go_at_call 74; exact Low.calls hw1 (hf.out _))) | rfl | exact ⟨rfl, rfl⟩)); simp only [Act.put, List.setIfInBounds_toArray, List.set_cons_zero, List.set_cons_succ])); refine wpQuiet_nil ?_; intro w2 hw2)
      have HF := Lib.hid (HN.out.trans (hw2.out.mono HN.out.size))
      clear hw2 l0 l1
      go_wp2
      go_roundw
      case rel => exact ⟨k + 1, by omega, by go_num, by rw [hs.out.1], by rw [hs.out.2], HF.out⟩
      case measure => simp [intOf]; omega
    · obtain rfl : k = l.length := by omega
      have dk : decide ((l.length : Int) < (l.length : Int)) = false := by simp
      go_wp2
      go_ret2
      exact ⟨rfl, hB⟩
theorem bx_any_2 (x y : Int) (w : World) :
    Calls Try.prog 75 #[.agg #[.int .i64 x, .int .i64 y]] w fun e w' => e = .returned (.int .i64 (bxF2 ⟨x, y⟩)) ∧ Below w.heap.size w w' := by
  unfold bxF2
  go_enter Try.func75, Try.ntmps75
  go_wp2
  go_ret
  exact ⟨rfl, by repeat (first | exact Below.refl _ _ | assumption | apply Below.drew | refine Below.setCell ?_ (by first | omega | (simp; done) | (simp; omega)) _ | refine Below.alloc ?_ (by first | omega | (simp; done) | (simp; omega)) _ | refine Below.call (by assumption) ?_ (by first | omega | (simp; done) | (simp; omega)))⟩

set_option linter.unusedSimpArgs false in
set_option maxHeartbeats 800000 in
theorem ends_2 (v : Value) (l : List Pt) (w : World) (hp : PtsAt w.heap.size w v l) (h1 : 0 < l.length) :
    Calls Try.prog 73 #[v, .func (.func 75) #[] #[]] w fun e w' => e = .returned (.tuple #[.int .i64 (loTo bxF2 l l.length), .int .i64 (hiTo bxF2 l l.length)]) ∧ Below w.heap.size w w' := by
  obtain ⟨hl, a, cap, rfl, hc⟩ := hp
  obtain ⟨b, o, rfl, hb, hc⟩ : ∃ b o, a = some ⟨b, o, none⟩ ∧ b < w.heap.size ∧ ∀ j, j < l.length → w.cell? ⟨b, o + j * 2, none⟩ = some (.int .i64 (nth l j).x) ∧ w.cell? ⟨b, o + j * 2 + 1, none⟩ = some (.int .i64 (nth l j).y) := by
    rcases hc with h | h
    · rw [h] at h1; simp at h1
    · exact h
  obtain ⟨e0, e1⟩ := hc 0 h1
  rw [Nat.zero_mul, Nat.add_zero] at e0 e1
  have l0 := Low.fact e0
  have l1 := Low.fact e1
  have HC := Lib.hid hc
  have hf := bx_any_2 (nth l 0).x (nth l 0).y
  have hff : bxF2 ⟨(nth l 0).x, (nth l 0).y⟩ = loTo bxF2 l 0 := rfl
  rw [hff] at hf
  have hf' := Lib.hid hf
  have i0 : (0 : Int) < l.length := by omega
  have i1 : (0 : Int) ≤ 0 := by omega
  clear hc hf hff e0 e1
  generalize (nth l 0).x = p0 at *
  generalize (nth l 0).y = p1 at *
  go_enter Try.func73, Try.ntmps73
  go_wp2
  (refine wp_region_low (by kernel_rfl) (by kernel_rfl) ?_; (iterate 12 (apply quiet_want; (case hw => rfl); (case hval => (intro w1 hw1; have hcx := Low.cells hw1; simp only [Oper.quietAt]; go_simp; first | done | (first | (go_at_call 75; exact Low.calls hw1 (hf'.out _))) | rfl | exact ⟨rfl, rfl⟩)); simp only [Act.put, List.setIfInBounds_toArray, List.set_cons_zero, List.set_cons_succ])); refine wpQuiet_nil ?_; intro w2 hw2)
  have B2 := hw2.out
  have hH := Lib.hid (show loTo bxF2 l 0 = hiTo bxF2 l 0 from rfl)
  have HB := Lib.hid B2
  clear hw2 l0 l1 B2
  generalize w2 = w1 at *
  have hz1 := HB.out.size
  go_wp2
  go_loopw [6, 7, 22] (fun x y i wr => ∃ k : Nat, k ≤ l.length ∧ i = .int .i64 (k : Int) ∧ x = .int .i64 (loTo bxF2 l k) ∧ y = .int .i64 (hiTo bxF2 l k) ∧ Below w.heap.size w wr) (fun _ _ i _ => l.length - (intOf i).toNat)
  case atStart => exact ⟨0, by omega, rfl, rfl, rfl, HB.out⟩
  case round =>
    obtain ⟨k, hk, rfl, rfl, rfl, hB⟩ := hrel
    have hzB := hB.size
    by_cases hlt : k < l.length
    · obtain ⟨q0, q1⟩ := HC.out k hlt
      have e0 := (hB.cell (p := ⟨b, o + k * 2, none⟩) hb).trans q0
      have e1 := (hB.cell (p := ⟨b, o + k * 2 + 1, none⟩) hb).trans q1
      have hs : Hid (loTo bxF2 l (k + 1) = (if bxF2 ⟨(nth l k).x, (nth l k).y⟩ < loTo bxF2 l k then bxF2 ⟨(nth l k).x, (nth l k).y⟩ else loTo bxF2 l k) ∧ hiTo bxF2 l (k + 1) = (if hiTo bxF2 l k < bxF2 ⟨(nth l k).x, (nth l k).y⟩ then bxF2 ⟨(nth l k).x, (nth l k).y⟩ else hiTo bxF2 l k)) := ⟨rfl, rfl⟩
      have hf := Lib.hid (bx_any_2 (nth l k).x (nth l k).y)
      have dk : decide ((k : Int) < (l.length : Int)) = true := by simp; omega
      have kl : (k : Int) < l.length := by omega
      have k0 : (0 : Int) ≤ k := by omega
      have hBB := Lib.hid hB
      generalize bxF2 ⟨(nth l k).x, (nth l k).y⟩ = f0 at *
      generalize (nth l k).x = px at *
      generalize (nth l k).y = py at *
      generalize loTo bxF2 l k = lo at *
      generalize hiTo bxF2 l k = hi at *
      clear q0 q1 hB
      go_wp2
      have hN := Has.new wr #[.int .i64 px, .int .i64 py] 31
      have hBn := hBB.out.alloc hzB (.cells #[.int .i64 px, .int .i64 py] 31)
      have x0 : (wr.alloc (.cells #[.int .i64 px, .int .i64 py] 31)).cell? ⟨wr.heap.size, 0, none⟩ = some (.int .i64 px) := hN.cell (i := 0) rfl
      have x1 : (wr.alloc (.cells #[.int .i64 px, .int .i64 py] 31)).cell? ⟨wr.heap.size, 1, none⟩ = some (.int .i64 py) := hN.cell (i := 1) rfl
      have hlN := hN.lt
      have l0 := Low.fact x0
      have l1 := Low.fact x1
      have HN := Lib.hid hBn
      clear hN hBn x0 x1 e0 e1
      generalize wr.alloc (.cells #[.int .i64 px, .int .i64 py] 31) = w3 at *
      (refine wp_region_low (by kernel_rfl) (by kernel_rfl) ?_; (iterate 12 (apply quiet_want; (case hw => rfl); (case hval => (intro w1 hw1; have hcx := Low.cells hw1; simp only [Oper.quietAt]; go_simp; first | done | (first | (go_at_call 75; exact Low.calls hw1 (hf.out _))) | rfl | exact ⟨rfl, rfl⟩)); simp only [Act.put, List.setIfInBounds_toArray, List.set_cons_zero, List.set_cons_succ])); refine wpQuiet_nil ?_; intro w2 hw2)
      have HF := Lib.hid (HN.out.trans (hw2.out.mono HN.out.size))
      clear hw2 l0 l1
      go_wp2
      go_roundw
      case rel => exact ⟨k + 1, by omega, by go_num, by rw [hs.out.1], by rw [hs.out.2], HF.out⟩
      case measure => simp [intOf]; omega
    · obtain rfl : k = l.length := by omega
      have dk : decide ((l.length : Int) < (l.length : Int)) = false := by simp
      go_wp2
      go_ret2
      exact ⟨rfl, hB⟩
end Go.Proofs.Ytjjkmonfihomnaa
