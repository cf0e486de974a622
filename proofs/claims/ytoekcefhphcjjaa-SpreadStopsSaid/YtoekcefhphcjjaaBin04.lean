/- The iterator over the sides of a polygon (package hull): its contract. -/
import Derived.RangeFuncNested
import Derived.RangeFuncBound
import Derived.RangeFuncCalls
import Derived.RangeFuncLeaves
import Derived.Shelf.Abstract
import Derived.Shelf.RegionOpen
import Derived.OwnWalkIn
import Derived.TacticsInMore
import Derived.LoopNIn
import Derived.LoopIn
import Derived.Test.YtoekcefhphcjjaaBin01
import Derived.Test.YtoekcefhphcjjaaBin03
namespace Go.Proofs.Ytoekcefhphcjjaa
open Go.RowKit Go.Shelf
attribute [local go_sem] Oper.semAt_some

/-- what has come when k rounds are over -/
def upto {α : Type} (f : Nat → α) (k : Nat) : List α := (List.range k).map f
theorem upto_succ {α : Type} (f : Nat → α) (k : Nat) : upto f (k + 1) = upto f k ++ [f k] := by simp [upto, List.range_succ]
theorem upto_length {α : Type} (f : Nat → α) (k : Nat) : (upto f k).length = k := by simp [upto]

/-- side i of a polygon -/
def sideP (l : List Pt) (i : Nat) : Pt × Pt := (nth l i, nth l ((i + 1) % l.length))
def encS (x : Pt × Pt) : Array Value := #[.agg #[.int .i64 x.1.x, .int .i64 x.1.y], .agg #[.int .i64 x.2.x, .int .i64 x.2.y]]

set_option maxRecDepth 100000 in
set_option maxHeartbeats 2000000 in
theorem sides1_in {α : Type} (encA : α → Array Value) (f : Nat → α) (n : Nat) (hn : 1 ≤ n) (W : World) (l Bs n0 n0' b o cap : Nat) (ps : List Pt) (hlen : ps.length ≤ 70368744177663) (hb : b < n0) (hBs : Bs < n0') (hn0' : n0' ≤ W.heap.size) (hf : ∀ i, i < ps.length → encA (f i) = encS (sideP ps i)) (J Jx : List α → World → Prop)
    (hJ : AbidesFrom W.heap.size J)
    (hY : ∀ pre x W1, J pre W1 → pre.length < ps.length → YieldAt Fence.wide (n - 1) Try.prog l (encA x) W1 fun e W' =>
      (e = .returned (.bool true) ∧ J (pre ++ [x]) W' ∧ Below n0' W1 W') ∨ (e = .returned (.bool false) ∧ Jx (pre ++ [x]) W')) (h00 : n0 ≤ n0')
    (hB : W.cell? ⟨Bs, 0, none⟩ = some (.slice (some ⟨b, o, none⟩) ps.length cap))
    (hc : ∀ j, j < ps.length → W.cell? ⟨b, o + j * 2, none⟩ = some (.int .i64 (nth ps j).x) ∧ W.cell? ⟨b, o + j * 2 + 1, none⟩ = some (.int .i64 (nth ps j).y)) (h0 : J [] W) :
    CallsIn Fence.wide n Try.prog 62 #[.func (.yield l) #[] #[], .pointer (some ⟨Bs, 0, none⟩)] W fun e W' => (∃ v, e = .returned v) ∧
      ((∃ ys, ys = upto f ps.length ∧ J ys W') ∨ (∃ pre, (∃ k, k ≤ ps.length ∧ pre = upto f k) ∧ Jx pre W')) := by
  refine callsIn_of_wp Try.func62 rfl trivial ?_ rfl
  simp only [Try.ntmps62, List.size_toArray, List.length_cons, List.length_nil, Nat.reduceAdd, Nat.reduceSub, Array.replicate_succ, Array.replicate_zero, List.push_toArray, List.append_toArray, List.nil_append, List.cons_append]
  gi_wp2
  gi_loopw [7] (fun i wr => ∃ k : Nat, k ≤ ps.length ∧ i = .int .i64 k ∧ J (upto f k) wr ∧ Below n0' W wr)
    (fun i _ => ps.length - (intOf i).toNat)
  case atStart => exact ⟨0, Nat.zero_le _, rfl, h0, Below.refl _ _⟩
  case round =>
    obtain ⟨k, hk, rfl, hJs, hnx⟩ := hrel
    by_cases hlt : k < ps.length
    · have hn0 : 0 < ps.length := by omega
      obtain ⟨m, hm⟩ : ∃ m, (k + 1) % ps.length = m := ⟨_, rfl⟩
      have hmlt : m < ps.length := by rw [← hm]; exact Nat.mod_lt _ hn0
      have hx : sideP ps k = (nth ps k, nth ps m) := by rw [sideP, hm]
      have b1 : W.heap.size ≤ wr.heap.size := hnx.size
      have hBl := World.block_lt_of_cell? W _ hB
      have e0 : wr.cell? ⟨Bs, 0, none⟩ = some (.slice (some ⟨b, o, none⟩) ps.length cap) := (hnx.cell (p := ⟨Bs, 0, none⟩) hBs).trans hB
      have e1 := (hnx.cell (p := ⟨b, o + k * 2, none⟩) (by show b < n0'; omega)).trans (hc k hlt).1
      have e2 := (hnx.cell (p := ⟨b, o + k * 2 + 1, none⟩) (by show b < n0'; omega)).trans (hc k hlt).2
      have e3 := (hnx.cell (p := ⟨b, o + m * 2, none⟩) (by show b < n0'; omega)).trans (hc m hmlt).1
      have e4 := (hnx.cell (p := ⟨b, o + m * 2 + 1, none⟩) (by show b < n0'; omega)).trans (hc m hmlt).2
      have hJ1 : J (upto f k) (wr.alloc (.cells #[.int .i64 (nth ps k).x, .int .i64 (nth ps k).y] 38)).drew :=
        hJ _ _ _ none (hJ _ _ _ none hJs (World.grownBy_alloc _ _ none) (fun r e => by cases e)) (grown_drew _ none) (fun r e => by cases e)
      obtain ⟨fn, tmps, assign, body, hy, hR⟩ := hY _ (f k) _ hJ1 (by rw [upto_length]; exact hlt)
      rw [hf k hlt, hx] at hy
      dsimp only [encS] at hy
      have hw1 : IntKind.i64.wrap ((k : Int) + 1) = (k : Int) + 1 := IntWalk.i64_in _ (by omega)
      have hw2 : ((k : Int) + 1).tmod (ps.length : Int) = (m : Int) := by
        have : ((k : Int) + 1).tmod (ps.length : Int) = (((k + 1) % ps.length : Nat) : Int) := by
          rw [Int.tmod_eq_emod_of_nonneg (by omega)]; rfl
        rw [this, hm]
      have hbl := World.block_lt_of_cell? wr _ e1
      have hB2 : Below wr.heap.size wr (wr.alloc (.cells #[.int .i64 (nth ps k).x, .int .i64 (nth ps k).y] 38)) := (Below.refl _ wr).alloc (Nat.le_refl _) _
      have f0 := (hB2.cell (p := ⟨Bs, 0, none⟩) (World.block_lt_of_cell? wr _ e0)).trans e0
      have f1 := (hB2.cell (p := ⟨b, o + k * 2, none⟩) hbl).trans e1
      have f2 := (hB2.cell (p := ⟨b, o + k * 2 + 1, none⟩) hbl).trans e2
      have f3 := (hB2.cell (p := ⟨b, o + m * 2, none⟩) hbl).trans e3
      have f4 := (hB2.cell (p := ⟨b, o + m * 2 + 1, none⟩) hbl).trans e4
      have hne : ¬ ps = [] := by intro h; rw [h] at hn0; simp at hn0
      have hc' := Lib.hid hc
      have hm' := Lib.hid hm
      have hx' := Lib.hid hx
      have hJ' := Lib.hid hJ1
      clear hc hm hx hB hJ1
      gi_wp2
      refine wpIn_region_still_tail (lets_wide _) 10 (by kernel_rfl) (by kernel_rfl) (by kernel_rfl) ?_
      simp only [List.take_succ_cons, List.take_zero, List.drop_succ_cons, List.drop_zero]
      iterate 10 (refine wpStill_step (fun K hK => ?_); go_simp; refine hK _ ?_; clear hK K)
      refine wpStill_nil ?_
      gi_wp2
      refine hR.mono ?_
      rintro e W3 (⟨rfl, hJ3, hk3⟩ | ⟨rfl, hJx3⟩)
      · gi_wp2
        go_roundw
        case rel => exact ⟨k + 1, by omega, by simp, by rw [upto_succ]; exact hJ3, hnx.trans ((((Below.refl n0' wr).alloc (by omega) _).drew).trans hk3)⟩
        case measure => simp [intOf]; omega
      · gi_wp2
        refine bodyPost_ret (results_none rfl _ _ _) rfl ?_
        exact ⟨⟨_, rfl⟩, .inr ⟨_, ⟨k + 1, by omega, (upto_succ _ _).symm⟩, hJx3⟩⟩
    · obtain rfl : k = ps.length := by omega
      gi_wp2
      go_end0
      exact ⟨⟨_, rfl⟩, .inl ⟨_, rfl, hJs⟩⟩

set_option maxRecDepth 100000 in
set_option maxHeartbeats 1000000 in
/-- .. of no point: no round -/
theorem sides1_none_in {α : Type} (n : Nat) (l Bs cap : Nat) (a : Option Addr) (J : List α → World → Prop) (W : World) (hB : W.cell? ⟨Bs, 0, none⟩ = some (.slice a 0 cap)) (h0 : J [] W) :
    CallsIn Fence.wide n Try.prog 62 #[.func (.yield l) #[] #[], .pointer (some ⟨Bs, 0, none⟩)] W fun e W' => (∃ v, e = .returned v) ∧ J [] W' := by
  refine callsIn_of_wp Try.func62 rfl trivial ?_ rfl
  simp only [Try.ntmps62, List.size_toArray, List.length_cons, List.length_nil, Nat.reduceAdd, Nat.reduceSub, Array.replicate_succ, Array.replicate_zero, List.push_toArray, List.append_toArray, List.nil_append, List.cons_append]
  gi_wp2
  gi_loopw [7] (fun i wr => i = .int .i64 0 ∧ J [] wr) (fun _ _ => 0)
  case atStart => exact ⟨rfl, h0⟩
  case round =>
    obtain ⟨rfl, hJs⟩ := hrel
    gi_wp2
    go_end0
    exact ⟨⟨_, rfl⟩, hJs⟩

theorem sides_any (a : Option Addr) (len cap : Nat) (w : World) :
    Calls Try.prog 31 #[.slice a len cap] w fun e w' => e = .returned (.func (.func 62) #[] #[.pointer (some ⟨w.heap.size, 0, none⟩)]) ∧ w.alloc (.cells #[.slice a len cap] 23) = w' := by
  go_enter Try.func31, Try.ntmps31
  go_wp2
  go_ret
  exact ⟨rfl, rfl⟩

/-- the sides of a polygon, in order: all, or the first ones -/
theorem sides_stops {α : Type} (encA : α → Array Value) (f : Nat → α) (n : Nat) (hn : 1 ≤ n) (Bs n0 : Nat) (sv : Value) (ps : List Pt) (w : World) (hBs : Bs < n0) (hn0 : n0 ≤ w.heap.size)
    (hc : w.cell? ⟨Bs, 0, none⟩ = some sv) (hI : PtsAt n0 w sv ps) (hf : ∀ i, i < ps.length → encA (f i) = encS (sideP ps i)) :
    SeqStopsK Fence.wide n Try.prog 62 #[.pointer (some ⟨Bs, 0, none⟩)] encA (Below n0) (fun ys => ys = upto f ps.length)
      (fun pre => ∃ k, k ≤ ps.length ∧ pre = upto f k) ps.length w := fun l J Jx W hW hJ _ hY h0 => by
  have hc' := (hW.cell (p := ⟨Bs, 0, none⟩) (by show Bs < _; omega)).trans hc
  have hsz := hW.size
  obtain ⟨hl, a, cap, rfl, hcs⟩ := hI.below (hW.mono hn0)
  rcases hcs with rfl | ⟨b, o, rfl, hb, hcs⟩
  · exact (sides1_none_in n l Bs _ a J W hc' h0).mono fun e W' ⟨he, hj⟩ => ⟨he, .inl ⟨_, rfl, hj⟩⟩
  · exact sides1_in encA f n hn W l Bs n0 n0 b o (ps.length + cap) ps hl hb hBs (by omega) hf J Jx hJ hY (Nat.le_refl _) hc' hcs h0
end Go.Proofs.Ytoekcefhphcjjaa
