/- The iterator over the sides of a polygon (package hull): its contract. | hull.Valid: its contract. | mission.up, mission.between; the reference's RootUp, Length, Lasts, Growth. | package tryst: root, farthest, Range. | The reference of layer 3: Less, Cross, Valid. | The reference's Valid of layer 3. | Both functions Valid of layer 3 say the same. | landfallref38: Square, Reach, Range. -/
import Derived.RangeFuncNested
import Derived.RangeFuncBound
import Derived.RangeFuncCalls
import Derived.RangeFuncLeaves
import Derived.Shelf.Abstract
import Derived.Shelf.RegionOpen
import Derived.OwnWalkIn
import Derived.TacticsInMore
import Derived.LoopNIn
import Derived.LoopIn
import Derived.Test.YtfbdidfaeplllaaGreatBin01
import Derived.Test.YtfbdidfaeplllaaGreatBin02
namespace Go.Proofs.YtfbdidfaeplllaaGreat
open Go.RowKit Go.Shelf
attribute [local go_sem] Oper.semAt_some

/-- what has come when k rounds are over -/
def upto {α : Type} (f : Nat → α) (k : Nat) : List α := (List.range k).map f
theorem upto_succ {α : Type} (f : Nat → α) (k : Nat) : upto f (k + 1) = upto f k ++ [f k] := by simp [upto, List.range_succ]
theorem upto_length {α : Type} (f : Nat → α) (k : Nat) : (upto f k).length = k := by simp [upto]

/-- side i of a polygon -/
def sideP (l : List Pt) (i : Nat) : Pt × Pt := (nth l i, nth l ((i + 1) % l.length))
def encS (x : Pt × Pt) : Array Value := #[.agg #[.int .i64 x.1.x, .int .i64 x.1.y], .agg #[.int .i64 x.2.x, .int .i64 x.2.y]]

set_option maxRecDepth 100000 in
set_option maxHeartbeats 2000000 in
theorem sides1_in {α : Type} (encA : α → Array Value) (f : Nat → α) (n : Nat) (hn : 1 ≤ n) (W : World) (l Bs n0 n0' b o cap : Nat) (ps : List Pt) (hlen : ps.length ≤ 70368744177663) (hb : b < n0) (hBs : Bs < n0') (hn0' : n0' ≤ W.heap.size) (hf : ∀ i, i < ps.length → encA (f i) = encS (sideP ps i)) (J Jx : List α → World → Prop)
    (hJ : AbidesFrom W.heap.size J)
    (hY : ∀ pre x W1, J pre W1 → pre.length < ps.length → YieldAt Fence.wide (n - 1) Tryz.prog l (encA x) W1 fun e W' =>
      (e = .returned (.bool true) ∧ J (pre ++ [x]) W' ∧ Below n0' W1 W') ∨ (e = .returned (.bool false) ∧ Jx (pre ++ [x]) W')) (h00 : n0 ≤ n0')
    (hB : W.cell? ⟨Bs, 0, none⟩ = some (.slice (some ⟨b, o, none⟩) ps.length cap))
    (hc : ∀ j, j < ps.length → W.cell? ⟨b, o + j * 2, none⟩ = some (.int .i64 (nth ps j).x) ∧ W.cell? ⟨b, o + j * 2 + 1, none⟩ = some (.int .i64 (nth ps j).y)) (h0 : J [] W) :
    CallsIn Fence.wide n Tryz.prog 103 #[.func (.yield l) #[] #[], .pointer (some ⟨Bs, 0, none⟩)] W fun e W' => (∃ v, e = .returned v) ∧
      ((∃ ys, ys = upto f ps.length ∧ J ys W') ∨ (∃ pre, (∃ k, k ≤ ps.length ∧ pre = upto f k) ∧ Jx pre W')) := by
  refine callsIn_of_wp Tryz.func103 rfl trivial ?_ rfl
  simp only [Tryz.ntmps103, List.size_toArray, List.length_cons, List.length_nil, Nat.reduceAdd, Nat.reduceSub, Array.replicate_succ, Array.replicate_zero, List.push_toArray, List.append_toArray, List.nil_append, List.cons_append]
  gi_wp2
  gi_loopw [7] (fun i wr => ∃ k : Nat, k ≤ ps.length ∧ i = .int .i64 k ∧ J (upto f k) wr ∧ Below n0' W wr)
    (fun i _ => ps.length - (intOf i).toNat)
  case atStart => exact ⟨0, Nat.zero_le _, rfl, h0, Below.refl _ _⟩
  case round =>
    obtain ⟨k, hk, rfl, hJs, hnx⟩ := hrel
    by_cases hlt : k < ps.length
    · have hn0 : 0 < ps.length := by omega
      obtain ⟨m, hm⟩ : ∃ m, (k + 1) % ps.length = m := ⟨_, rfl⟩
      have hmlt : m < ps.length := by rw [← hm]; exact Nat.mod_lt _ hn0
      have hx : sideP ps k = (nth ps k, nth ps m) := by rw [sideP, hm]
      have b1 : W.heap.size ≤ wr.heap.size := hnx.size
      have hBl := World.block_lt_of_cell? W _ hB
      have e0 : wr.cell? ⟨Bs, 0, none⟩ = some (.slice (some ⟨b, o, none⟩) ps.length cap) := (hnx.cell (p := ⟨Bs, 0, none⟩) hBs).trans hB
      have e1 := (hnx.cell (p := ⟨b, o + k * 2, none⟩) (by show b < n0'; omega)).trans (hc k hlt).1
      have e2 := (hnx.cell (p := ⟨b, o + k * 2 + 1, none⟩) (by show b < n0'; omega)).trans (hc k hlt).2
      have e3 := (hnx.cell (p := ⟨b, o + m * 2, none⟩) (by show b < n0'; omega)).trans (hc m hmlt).1
      have e4 := (hnx.cell (p := ⟨b, o + m * 2 + 1, none⟩) (by show b < n0'; omega)).trans (hc m hmlt).2
      have hJ1 : J (upto f k) (wr.alloc (.cells #[.int .i64 (nth ps k).x, .int .i64 (nth ps k).y] 31)).drew :=
        hJ _ _ _ none (hJ _ _ _ none hJs (World.grownBy_alloc _ _ none) (fun r e => by cases e)) (grown_drew _ none) (fun r e => by cases e)
      obtain ⟨fn, tmps, assign, body, hy, hR⟩ := hY _ (f k) _ hJ1 (by rw [upto_length]; exact hlt)
      rw [hf k hlt, hx] at hy
      dsimp only [encS] at hy
      have hw1 : IntKind.i64.wrap ((k : Int) + 1) = (k : Int) + 1 := IntWalk.i64_in _ (by omega)
      have hw2 : ((k : Int) + 1).tmod (ps.length : Int) = (m : Int) := by
        have : ((k : Int) + 1).tmod (ps.length : Int) = (((k + 1) % ps.length : Nat) : Int) := by
          rw [Int.tmod_eq_emod_of_nonneg (by omega)]; rfl
        rw [this, hm]
      have hbl := World.block_lt_of_cell? wr _ e1
      have hB2 : Below wr.heap.size wr (wr.alloc (.cells #[.int .i64 (nth ps k).x, .int .i64 (nth ps k).y] 31)) := (Below.refl _ wr).alloc (Nat.le_refl _) _
      have f0 := (hB2.cell (p := ⟨Bs, 0, none⟩) (World.block_lt_of_cell? wr _ e0)).trans e0
      have f1 := (hB2.cell (p := ⟨b, o + k * 2, none⟩) hbl).trans e1
      have f2 := (hB2.cell (p := ⟨b, o + k * 2 + 1, none⟩) hbl).trans e2
      have f3 := (hB2.cell (p := ⟨b, o + m * 2, none⟩) hbl).trans e3
      have f4 := (hB2.cell (p := ⟨b, o + m * 2 + 1, none⟩) hbl).trans e4
      have hne : ¬ ps = [] := by intro h; rw [h] at hn0; simp at hn0
      have hc' := Lib.hid hc
      have hm' := Lib.hid hm
      have hx' := Lib.hid hx
      have hJ' := Lib.hid hJ1
      clear hc hm hx hB hJ1
      gi_wp2
      refine wpIn_region_still_tail (lets_wide _) 10 (by kernel_rfl) (by kernel_rfl) (by kernel_rfl) ?_
      simp only [List.take_succ_cons, List.take_zero, List.drop_succ_cons, List.drop_zero]
      iterate 10 (refine wpStill_step (fun K hK => ?_); go_simp; refine hK _ ?_; clear hK K)
      refine wpStill_nil ?_
      gi_wp2
      refine hR.mono ?_
      rintro e W3 (⟨rfl, hJ3, hk3⟩ | ⟨rfl, hJx3⟩)
      · gi_wp2
        go_roundw
        case rel => exact ⟨k + 1, by omega, by simp, by rw [upto_succ]; exact hJ3, hnx.trans ((((Below.refl n0' wr).alloc (by omega) _).drew).trans hk3)⟩
        case measure => simp [intOf]; omega
      · gi_wp2
        refine bodyPost_ret (results_none rfl _ _ _) rfl ?_
        exact ⟨⟨_, rfl⟩, .inr ⟨_, ⟨k + 1, by omega, (upto_succ _ _).symm⟩, hJx3⟩⟩
    · obtain rfl : k = ps.length := by omega
      gi_wp2
      go_end0
      exact ⟨⟨_, rfl⟩, .inl ⟨_, rfl, hJs⟩⟩

set_option maxRecDepth 100000 in
set_option maxHeartbeats 1000000 in
/-- .. of no point: no round -/
theorem sides1_none_in {α : Type} (n : Nat) (l Bs cap : Nat) (a : Option Addr) (J : List α → World → Prop) (W : World) (hB : W.cell? ⟨Bs, 0, none⟩ = some (.slice a 0 cap)) (h0 : J [] W) :
    CallsIn Fence.wide n Tryz.prog 103 #[.func (.yield l) #[] #[], .pointer (some ⟨Bs, 0, none⟩)] W fun e W' => (∃ v, e = .returned v) ∧ J [] W' := by
  refine callsIn_of_wp Tryz.func103 rfl trivial ?_ rfl
  simp only [Tryz.ntmps103, List.size_toArray, List.length_cons, List.length_nil, Nat.reduceAdd, Nat.reduceSub, Array.replicate_succ, Array.replicate_zero, List.push_toArray, List.append_toArray, List.nil_append, List.cons_append]
  gi_wp2
  gi_loopw [7] (fun i wr => i = .int .i64 0 ∧ J [] wr) (fun _ _ => 0)
  case atStart => exact ⟨rfl, h0⟩
  case round =>
    obtain ⟨rfl, hJs⟩ := hrel
    gi_wp2
    go_end0
    exact ⟨⟨_, rfl⟩, hJs⟩

theorem sides_any (a : Option Addr) (len cap : Nat) (w : World) :
    Calls Tryz.prog 56 #[.slice a len cap] w fun e w' => e = .returned (.func (.func 103) #[] #[.pointer (some ⟨w.heap.size, 0, none⟩)]) ∧ w.alloc (.cells #[.slice a len cap] 23) = w' := by
  go_enter Tryz.func56, Tryz.ntmps56
  go_wp2
  go_ret
  exact ⟨rfl, rfl⟩

/-- the sides of a polygon, in order: all, or the first ones -/
theorem sides_stops {α : Type} (encA : α → Array Value) (f : Nat → α) (n : Nat) (hn : 1 ≤ n) (Bs n0 : Nat) (sv : Value) (ps : List Pt) (w : World) (hBs : Bs < n0) (hn0 : n0 ≤ w.heap.size)
    (hc : w.cell? ⟨Bs, 0, none⟩ = some sv) (hI : PtsAt n0 w sv ps) (hf : ∀ i, i < ps.length → encA (f i) = encS (sideP ps i)) :
    SeqStopsK Fence.wide n Tryz.prog 103 #[.pointer (some ⟨Bs, 0, none⟩)] encA (Below n0) (fun ys => ys = upto f ps.length)
      (fun pre => ∃ k, k ≤ ps.length ∧ pre = upto f k) ps.length w := fun l J Jx W hW hJ _ hY h0 => by
  have hc' := (hW.cell (p := ⟨Bs, 0, none⟩) (by show Bs < _; omega)).trans hc
  have hsz := hW.size
  obtain ⟨hl, a, cap, rfl, hcs⟩ := hI.below (hW.mono hn0)
  rcases hcs with rfl | ⟨b, o, rfl, hb, hcs⟩
  · exact (sides1_none_in n l Bs _ a J W hc' h0).mono fun e W' ⟨he, hj⟩ => ⟨he, .inl ⟨_, rfl, hj⟩⟩
  · exact sides1_in encA f n hn W l Bs n0 n0 b o (ps.length + cap) ps hl hb hBs (by omega) hf J Jx hJ hY (Nat.le_refl _) hc' hcs h0
end Go.Proofs.YtfbdidfaeplllaaGreat

namespace Go.Proofs.YtfbdidfaeplllaaGreat
open Go.RowKit Go.Shelf
attribute [local go_sem] Oper.semAt_some
attribute [local irreducible] wpQuiet

/-- corner k is a place, and greater than the first one -/
def headOk (l : List Pt) (k : Nat) : Prop := placeP (nth l k) = true ∧ (0 < k → cmpP (nth l 0) (nth l k) < 0)
/-- as the code of package hull has it -/
def GoValid (l : List Pt) : Prop := 1 ≤ l.length ∧ l.length ≤ 64 ∧ (∀ k, k < l.length → headOk l k) ∧
  (3 ≤ l.length → ∀ i, i < l.length → ∀ k, k < l.length → nth l k ≠ (sideP l i).1 → nth l k ≠ (sideP l i).2 → 0 < turnP (sideP l i).1 (sideP l i).2 (nth l k))

open Classical in
noncomputable def goValid (l : List Pt) : Bool := decide (GoValid l)

set_option maxRecDepth 100000 in
set_option maxHeartbeats 2000000 in
theorem hullValid_size (v : Value) (l : List Pt) (w : World) (hp : PtsAt w.heap.size w v l) (hs : l.length < 1 ∨ 64 < l.length) :
    Calls Tryz.prog 50 #[v] w fun e w' => e = .returned (.bool (goValid l)) ∧ Below w.heap.size w w' := by
  have hr : goValid l = false := by simp only [goValid, decide_eq_false_iff_not]; rintro ⟨h1, h2, _⟩; omega
  rw [hr]; clear hr
  obtain ⟨hl, a, cap, rfl, hc⟩ := hp
  clear hc
  refine (callsIn_wide (n := 9)).1 ?_
  refine callsIn_of_wp_marks Tryz.func50 rfl trivial ?_ rfl
  simp only [Tryz.ntmps50, List.size_toArray, List.length_cons, List.length_nil, Nat.reduceAdd, Nat.reduceSub, Array.replicate_succ, Array.replicate_zero, List.push_toArray, List.append_toArray, List.nil_append, List.cons_append]
  refine wpIn_wide.2 ?_
  rcases hs with hs | hs
  · have d : decide ((l.length : Int) < 1) = true := by simp; omega
    have hs' := Lib.hid hs
    clear hs
    go_wp2
    exact ⟨.bool false, by simp [results, Tryz.f50, go_sem], rfl, by repeat (first | exact Below.refl _ _ | assumption | apply Below.drew | refine Below.setCell ?_ (by first | omega | (simp; done) | (simp; omega)) _ | refine Below.alloc ?_ (by first | omega | (simp; done) | (simp; omega)) _ | refine Below.call (by assumption) ?_ (by first | omega | (simp; done) | (simp; omega)))⟩
  · have d : decide ((l.length : Int) < 1) = false := by simp; omega
    have d : decide (64 < (l.length : Int)) = true := by simp; omega
    have hs' := Lib.hid hs
    clear hs
    go_wp2
    exact ⟨.bool false, by simp [results, Tryz.f50, go_sem], rfl, by repeat (first | exact Below.refl _ _ | assumption | apply Below.drew | refine Below.setCell ?_ (by first | omega | (simp; done) | (simp; omega)) _ | refine Below.alloc ?_ (by first | omega | (simp; done) | (simp; omega)) _ | refine Below.call (by assumption) ?_ (by first | omega | (simp; done) | (simp; omega)))⟩
theorem Boxed.below {W W' : World} {B n : Nat} {t : TypeId} {v : Value} (h : Boxed W B t v) (hb : Below n W W') (hlt : B < n) : Boxed W' B t v := (hb.block B hlt).trans h

/-- block B holds a row of cells -/
def Has (W : World) (B : Nat) (cs : Array Value) (t : TypeId) : Prop := W.heap[B]? = some (.cells cs t (0, 0))
theorem Has.lt {W : World} {B : Nat} {cs : Array Value} {t : TypeId} (h : Has W B cs t) : B < W.heap.size := (Array.getElem?_eq_some_iff.1 h).1
theorem has_kept {W W' : World} {row : Option Nat} {B : Nat} {cs : Array Value} {t : TypeId} (h : Has W B cs t) (hg : W.grownBy W' row) (hrow : ∀ r, row = some r → ∃ o : Obj, W.heap[r]? = some o ∧ o.isCells = false) : Has W' B cs t :=
  (hg.block B h.lt (fun e => by obtain ⟨o, ho, hc⟩ := hrow B e.symm; rw [show W.heap[B]? = _ from h] at ho; cases ho; cases hc)).trans h
theorem Has.below {W W' : World} {B n : Nat} {cs : Array Value} {t : TypeId} (h : Has W B cs t) (hb : Below n W W') (hlt : B < n) : Has W' B cs t := (hb.block B hlt).trans h
theorem Has.new (W : World) (cs : Array Value) (t : TypeId) : Has (W.alloc (.cells cs t)) W.heap.size cs t := World.alloc_heap_new W _
theorem Has.cell {W : World} {B : Nat} {cs : Array Value} {t : TypeId} (h : Has W B cs t) {i : Nat} {v : Value} (hi : cs[i]? = some v) : W.cell? ⟨B, i, none⟩ = some v := by
  simp [World.cell?, show W.heap[B]? = _ from h, hi]

/-- all other corners lie on the left of a side -/
def sideOk (l : List Pt) (s : Pt × Pt) : Prop := ∀ k, k < l.length → nth l k ≠ s.1 → nth l k ≠ s.2 → 0 < turnP s.1 s.2 (nth l k)

def okTo (l : List Pt) (a b : Pt) (k : Nat) : Prop := ∀ j, j < k → nth l j ≠ a → nth l j ≠ b → 0 < turnP a b (nth l j)
theorem okTo_skip {l : List Pt} {a b : Pt} {k : Nat} (h : okTo l a b k) (hk : nth l k = a ∨ nth l k = b) : okTo l a b (k + 1) := fun j hj h1 h2 => by
  by_cases e : j = k
  · subst e; rcases hk with hk | hk
    · exact absurd hk h1
    · exact absurd hk h2
  · exact h j (by omega) h1 h2
theorem okTo_more {l : List Pt} {a b : Pt} {k : Nat} (h : okTo l a b k) (hk : 0 < turnP a b (nth l k)) : okTo l a b (k + 1) := fun j hj h1 h2 => by
  by_cases e : j = k
  · subst e; exact hk
  · exact h j (by omega) h1 h2
theorem pt_cases (px py ax ay bx by' : Int) : ((px = ax ∧ py = ay) ∨ (px = ax ∧ ¬ py = ay ∧ ax = bx ∧ py = by') ∨ (¬ px = ax ∧ px = bx ∧ py = by')) ∨
    ((px = ax ∧ ¬ py = ay ∧ ax = bx ∧ ¬ py = by') ∨ (px = ax ∧ ¬ py = ay ∧ ¬ ax = bx) ∨ (¬ px = ax ∧ px = bx ∧ ¬ py = by') ∨ (¬ px = ax ∧ ¬ px = bx)) := by omega
theorem Pt.ne_of {a b : Pt} (h : ¬ (a.x = b.x ∧ a.y = b.y)) : a ≠ b := fun e => h (by rw [e]; exact ⟨rfl, rfl⟩)

theorem keeps_of_below {B : Nat} {W W' : World} (h : Below W.heap.size W W') : KeepsFrom B W W' :=
  ⟨h.size, fun k _ _ hk _ => (h.block k (Array.getElem?_eq_some_iff.1 hk).1).trans hk⟩
theorem mem_upto {α : Type} {f : Nat → α} {n : Nat} {x : α} : x ∈ upto f n ↔ ∃ i, i < n ∧ f i = x := by simp [upto]

/-- a side of places -/
abbrev PlS := { s : Pt × Pt // placeP s.1 = true ∧ placeP s.2 = true }
theorem nth_place {l : List Pt} (h : ∀ k, k < l.length → placeP (nth l k) = true) (k : Nat) : placeP (nth l k) = true := by
  by_cases hk : k < l.length
  · exact h k hk
  · have : nth l k = ⟨0, 0⟩ := by unfold nth; simp [List.getD_eq_getElem?_getD, List.getElem?_eq_none (by omega : l.length ≤ k)]
    rw [this]; rfl


set_option maxRecDepth 100000 in
set_option maxHeartbeats 4000000 in
theorem hullValid_two (v : Value) (l : List Pt) (w : World) (hp : PtsAt w.heap.size w v l) (h1 : 1 ≤ l.length) (h2 : l.length ≤ 64) :
    Calls Tryz.prog 50 #[v] w fun e w' => e = .returned (.bool (goValid l)) ∧ Below w.heap.size w w' := by
  obtain ⟨hl, a, cap, rfl, hc⟩ := hp
  obtain ⟨b, o, rfl, hb, hc⟩ : ∃ b o, a = some ⟨b, o, none⟩ ∧ b < w.heap.size ∧ ∀ j, j < l.length → w.cell? ⟨b, o + j * 2, none⟩ = some (.int .i64 (nth l j).x) ∧ w.cell? ⟨b, o + j * 2 + 1, none⟩ = some (.int .i64 (nth l j).y) := by
    rcases hc with rfl | h
    · simp at h1
    · exact h
  refine (callsIn_wide (n := 9)).1 ?_
  refine callsIn_of_wp_marks Tryz.func50 rfl trivial ?_ rfl
  simp only [Tryz.ntmps50, List.size_toArray, List.length_cons, List.length_nil, Nat.reduceAdd, Nat.reduceSub, Array.replicate_succ, Array.replicate_zero, List.push_toArray, List.append_toArray, List.nil_append, List.cons_append]
  refine wpIn_wide.2 ?_
  have d1 : decide ((l.length : Int) < 1) = false := by simp; omega
  have d2 : decide (64 < (l.length : Int)) = false := by simp; omega
  have hc' := Lib.hid hc
  clear hc
  go_wp2
  go_loopw [19] (fun i wr => ∃ k : Nat, k ≤ l.length ∧ i = .int .i64 k ∧ (∀ j, j < k → headOk l j) ∧
    Boxed wr w.heap.size 23 (.slice (some ⟨b, o, none⟩) l.length (l.length + cap)) ∧ Boxed wr (w.heap.size + 1) 4 (.bool false) ∧ Below w.heap.size w wr) (fun i _ => l.length - (intOf i).toNat)
  case atStart =>
    have bS := Boxed.new w 23 (.slice (some ⟨b, o, none⟩) l.length (l.length + cap))
    have bR := Boxed.new (w.alloc (.cells #[.slice (some ⟨b, o, none⟩) l.length (l.length + cap)] 23)) 4 (.bool false)
    rw [World.size_alloc] at bR
    exact ⟨0, Nat.zero_le _, rfl, fun j h => by omega, bS.alloc _, bR, by repeat (first | exact Below.refl _ _ | assumption | apply Below.drew | refine Below.setCell ?_ (by first | omega | (simp; done) | (simp; omega)) _ | refine Below.alloc ?_ (by first | omega | (simp; done) | (simp; omega)) _ | refine Below.call (by assumption) ?_ (by first | omega | (simp; done) | (simp; omega)))⟩
  case round =>
    obtain ⟨k, hk, rfl, hall, bS, bR, hB⟩ := hrel
    by_cases hlt : k < l.length
    · have hz := hB.size
      have hsr := bR.lt
      have c0 := bS.cell
      have c1 := (hB.cell (p := ⟨b, o + k * 2, none⟩) hb).trans (hc'.out k hlt).1
      have c2 := (hB.cell (p := ⟨b, o + k * 2 + 1, none⟩) hb).trans (hc'.out k hlt).2
      have c3 := (hB.cell (p := ⟨b, o + 0 * 2, none⟩) hb).trans (hc'.out 0 (by omega)).1
      have c4 := (hB.cell (p := ⟨b, o + 0 * 2 + 1, none⟩) hb).trans (hc'.out 0 (by omega)).2
      simp only [Nat.zero_mul, Nat.add_zero] at c3 c4
      have hB2 : Below wr.heap.size wr (wr.alloc (.cells #[.int .i64 (nth l k).x, .int .i64 (nth l k).y] 31)) := (Below.refl _ wr).alloc (Nat.le_refl _) _
      have hall' := Lib.hid hall
      have bS' := Lib.hid bS
      have bR' := Lib.hid bR
      clear hall bS bR
      have r0 := bR'.out.cell
      have r1 := bR'.out.frozen
      cases hpl : placeB (nth l k).x (nth l k).y
      · have hr : goValid l = false := by
          simp only [goValid, decide_eq_false_iff_not]
          rintro ⟨_, _, h3, _⟩
          have := (h3 k hlt).1
          rw [placeP, hpl] at this; cases this
        have HR := Lib.hid hr
        clear hr
        go_wp2
        (refine wp_region_low (by kernel_rfl) (by kernel_rfl) ?_; (iterate 4 (apply quiet_want; (case hw => rfl); (case hval => (intro w1 hw1; have hcx := Low.cells hw1; simp only [Oper.quietAt]; go_simp; first | done | (first | (go_at_call 53; exact Low.calls hw1 (isPlace_no _ _ _ hpl))) | rfl | exact ⟨rfl, rfl⟩)); simp only [Act.put, List.setIfInBounds_toArray, List.set_cons_zero, List.set_cons_succ])); (iterate 10 (apply quiet_skip; (case hw => rfl); simp only [Act.put, List.setIfInBounds_toArray, List.set_cons_zero, List.set_cons_succ])); (iterate 1 (apply quiet_want; (case hw => rfl); (case hval => (intro w1 hw1; have hcx := Low.cells hw1; simp only [Oper.quietAt]; go_simp; first | done | (first | (go_at_call 53; exact Low.calls hw1 (isPlace_no _ _ _ hpl))) | rfl | exact ⟨rfl, rfl⟩)); simp only [Act.put, List.setIfInBounds_toArray, List.set_cons_zero, List.set_cons_succ])); refine wpQuiet_nil ?_; intro w2 hw2)
        have hz2 := hw2.out.size
        rw [World.size_alloc] at hz2
        have bR2 : Boxed w2 (w.heap.size + 1) 4 (.bool false) := Boxed.below (bR'.out.alloc _) hw2.out (by rw [World.size_alloc]; omega)
        have q0 := bR2.cell
        have q1 := bR2.frozen
        go_wp2
        exact ⟨.bool false, by simp [results, Tryz.f50, go_sem, World.cell?_setCell_same' w2 ⟨w.heap.size + 1, 0, none⟩ (.bool false) (by rw [q0]; rfl)], ret_bool HR.out.symm, ((hB.alloc (by omega) _).trans (hw2.out.mono (by rw [World.size_alloc]; omega))).setCell (by simp) _⟩
      · by_cases hk0 : k = 0
        · subst hk0
          have dk : decide ((0 : Int) < ((0 : Nat) : Int)) = false := by simp
          go_wp2
          (refine wp_region_low (by kernel_rfl) (by kernel_rfl) ?_; (iterate 7 (apply quiet_want; (case hw => rfl); (case hval => (intro w1 hw1; have hcx := Low.cells hw1; simp only [Oper.quietAt]; go_simp; first | done | (first | (go_at_call 53; exact Low.calls hw1 (isPlace_yes _ _ _ hpl))) | rfl | exact ⟨rfl, rfl⟩)); simp only [Act.put, List.setIfInBounds_toArray, List.set_cons_zero, List.set_cons_succ])); (iterate 6 (apply quiet_skip; (case hw => rfl); simp only [Act.put, List.setIfInBounds_toArray, List.set_cons_zero, List.set_cons_succ])); (iterate 2 (apply quiet_want; (case hw => rfl); (case hval => (intro w1 hw1; have hcx := Low.cells hw1; simp only [Oper.quietAt]; go_simp; first | done | (first | (go_at_call 53; exact Low.calls hw1 (isPlace_yes _ _ _ hpl))) | rfl | exact ⟨rfl, rfl⟩)); simp only [Act.put, List.setIfInBounds_toArray, List.set_cons_zero, List.set_cons_succ])); refine wpQuiet_nil ?_; intro w2 hw2)
          have hz2 := hw2.out.size
          rw [World.size_alloc] at hz2
          go_wp2
          go_roundw
          case rel =>
            refine ⟨1, by omega, rfl, fun j hj => ?_, Boxed.below (bS'.out.alloc _) hw2.out (by rw [World.size_alloc]; omega), Boxed.below (bR'.out.alloc _) hw2.out (by rw [World.size_alloc]; omega), (hB.alloc (by omega) _).trans (hw2.out.mono (by rw [World.size_alloc]; omega))⟩
            obtain rfl : j = 0 := by omega
            exact ⟨hpl, fun h => by omega⟩
          case measure => simp [intOf]; omega
        · have hk1 : (0 : Int) < (k : Int) := by omega
          have dk : decide (0 < k) = true := by simp; omega
          have hkn : 0 < k := by omega
          have hl0 : 0 < l.length := by omega
          have hbl := World.block_lt_of_cell? wr _ c1
          have f0 := (hB2.cell (p := ⟨w.heap.size, 0, none⟩) (World.block_lt_of_cell? wr _ c0)).trans c0
          have f3 := (hB2.cell (p := ⟨b, o, none⟩) hbl).trans c3
          have f4 := (hB2.cell (p := ⟨b, o + 1, none⟩) hbl).trans c4
          have g0 := Low.fact f0
          have g3 := Low.fact f3
          have g4 := Low.fact f4
          by_cases hcmp : cmpV (nth l 0).x (nth l 0).y (nth l k).x (nth l k).y < 0
          · have dc : decide (0 ≤ cmpV (nth l 0).x (nth l 0).y (nth l k).x (nth l k).y) = false := by simp; omega
            have HC := Lib.hid hcmp
            clear hcmp
            go_wp2
            (refine wp_region_low (by kernel_rfl) (by kernel_rfl) ?_; (iterate 15 (apply quiet_want; (case hw => rfl); (case hval => (intro w1 hw1; have hcx := Low.cells hw1; simp only [Oper.quietAt]; go_simp; first | done | (first | (go_at_call 53; exact Low.calls hw1 (isPlace_yes _ _ _ hpl)) | (go_at_call 98; exact Low.calls hw1 (compare_any _ _ _ _ _))) | rfl | exact ⟨rfl, rfl⟩)); simp only [Act.put, List.setIfInBounds_toArray, List.set_cons_zero, List.set_cons_succ])); refine wpQuiet_nil ?_; intro w2 hw2)
            have hz2 := hw2.out.size
            rw [World.size_alloc] at hz2
            go_wp2
            go_roundw
            case rel =>
              refine ⟨k + 1, by omega, by simp, fun j hj => ?_, Boxed.below (bS'.out.alloc _) hw2.out (by rw [World.size_alloc]; omega), Boxed.below (bR'.out.alloc _) hw2.out (by rw [World.size_alloc]; omega), (hB.alloc (by omega) _).trans (hw2.out.mono (by rw [World.size_alloc]; omega))⟩
              by_cases e : j = k
              · subst e; exact ⟨hpl, fun _ => HC.out⟩
              · exact hall'.out j (by omega)
            case measure => simp [intOf]; omega
          · have dc : decide (0 ≤ cmpV (nth l 0).x (nth l 0).y (nth l k).x (nth l k).y) = true := by simp; omega
            have hr : goValid l = false := by
              simp only [goValid, decide_eq_false_iff_not]
              rintro ⟨_, _, h3, _⟩
              exact hcmp ((h3 k hlt).2 (by omega))
            have HR := Lib.hid hr
            clear hr hcmp
            go_wp2
            (refine wp_region_low (by kernel_rfl) (by kernel_rfl) ?_; (iterate 15 (apply quiet_want; (case hw => rfl); (case hval => (intro w1 hw1; have hcx := Low.cells hw1; simp only [Oper.quietAt]; go_simp; first | done | (first | (go_at_call 53; exact Low.calls hw1 (isPlace_yes _ _ _ hpl)) | (go_at_call 98; exact Low.calls hw1 (compare_any _ _ _ _ _))) | rfl | exact ⟨rfl, rfl⟩)); simp only [Act.put, List.setIfInBounds_toArray, List.set_cons_zero, List.set_cons_succ])); refine wpQuiet_nil ?_; intro w2 hw2)
            have hz2 := hw2.out.size
            rw [World.size_alloc] at hz2
            have bR2 : Boxed w2 (w.heap.size + 1) 4 (.bool false) := Boxed.below (bR'.out.alloc _) hw2.out (by rw [World.size_alloc]; omega)
            have q0 := bR2.cell
            have q1 := bR2.frozen
            go_wp2
            exact ⟨.bool false, by simp [results, Tryz.f50, go_sem, World.cell?_setCell_same' w2 ⟨w.heap.size + 1, 0, none⟩ (.bool false) (by rw [q0]; rfl)], ret_bool HR.out.symm, ((hB.alloc (by omega) _).trans (hw2.out.mono (by rw [World.size_alloc]; omega))).setCell (by simp) _⟩
    · obtain rfl : k = l.length := by omega
      have c0 := bS.cell
      have r0 := bR.cell
      have r1 := bR.frozen
      have hz := hB.size
      by_cases h3 : l.length < 3
      · have d3 : decide ((l.length : Int) < 3) = true := by simp; omega
        have hr : goValid l = true := by
          simp only [goValid, decide_eq_true_eq]
          exact ⟨h1, h2, hall, fun h => by omega⟩
        have HR := Lib.hid hr
        clear hr hall
        go_wp2
        exact ⟨.bool true, by simp [results, Tryz.f50, go_sem, World.cell?_setCell_same' wr ⟨w.heap.size + 1, 0, none⟩ (.bool true) (by rw [r0]; rfl)], ret_bool HR.out.symm, hB.setCell (by simp) _⟩
      · have d3 : decide ((l.length : Int) < 3) = false := by simp; omega
        have hall' := Lib.hid hall
        clear hall
        go_wp2_with (go_at_call 56; refine (sides_any _ _ _ _).mono ?_; rintro e w' ⟨rfl, rfl⟩)
        have hz' : (wr.alloc (.cells #[.slice (some ⟨b, o, none⟩) l.length (l.length + cap)] 23)).heap.size = wr.heap.size + 1 := by simp
        have hBa : Below w.heap.size w (wr.alloc (.cells #[.slice (some ⟨b, o, none⟩) l.length (l.length + cap)] 23)) := hB.alloc hz _
        have bN := Boxed.new wr 23 (.slice (some ⟨b, o, none⟩) l.length (l.length + cap))
        have bS0 := bS.alloc (.cells #[.slice (some ⟨b, o, none⟩) l.length (l.length + cap)] 23)
        have bR0 := bR.alloc (.cells #[.slice (some ⟨b, o, none⟩) l.length (l.length + cap)] 23)
        obtain ⟨W0, hW0⟩ : ∃ W0, (wr.alloc (.cells #[.slice (some ⟨b, o, none⟩) l.length (l.length + cap)] 23)) = W0 := ⟨_, rfl⟩
        rw [hW0] at hz' hBa bN bS0 bR0 ⊢
        clear hW0 bS bR c0 r0 r1
        have hI : PtsAt (wr.heap.size + 1) W0 (.slice (some ⟨b, o, none⟩) l.length (l.length + cap)) l :=
          PtsAt.mono (PtsAt.below hBa ⟨hl, _, cap, rfl, Or.inr ⟨b, o, rfl, hb, hc'.out⟩⟩) (by omega)
        have hpl : ∀ i, placeP (sideP l i).1 = true ∧ placeP (sideP l i).2 = true := fun i => ⟨nth_place (fun k hk => (hall'.out k hk).1) _, nth_place (fun k hk => (hall'.out k hk).1) _⟩
        refine (wpIn_wide (n := 9)).1 ?_
        refine wpIn_rangeFunc_ownH rfl (by omega) (gf := 103) (lb := #[.pointer (some ⟨wr.heap.size, 0, none⟩)]) rfl trivial (enters_of Tryz.func103 (by kernel_rfl) rfl)
          (sides_stops (fun s : PlS => encS s.1) (fun i => ⟨sideP l i, hpl i⟩) 8 (by omega) wr.heap.size (wr.heap.size + 1) _ l _ (by omega) (by rw [hz']; omega) bN.cell hI (fun _ _ => rfl)) belowK_t (belowK_b (by rw [hz']; omega)) (Below.refl _ _) (fun _ => rfl)
          (fun pre W => (Boxed W w.heap.size 23 (.slice (some ⟨b, o, none⟩) l.length (l.length + cap)) ∧ Boxed W (w.heap.size + 1) 4 (.bool false)) ∧ (Below w.heap.size W0 W ∧ ∀ s ∈ pre, sideOk l s.1))
          (fun c pre W => (Boxed W (w.heap.size + 1) 4 (.bool false) ∧ (c = .ret ∧ ∃ s ∈ pre, ¬ sideOk l s.1)) ∧ Below w.heap.size W0 W)
          (OwnFrom.and (OwnFrom.and (Own.from (boxed_own _ _ (fun _ => _)) _) (Own.from (boxed_own _ _ (fun _ => _)) _)) (OwnFrom.and (ownFrom_below (by rw [hz']; omega) (by rw [hz']; omega)) (ownFrom_pure _ _)))
          (fun c => OwnFrom.and (OwnFrom.and (Own.from (boxed_own _ _ (fun _ => _)) _) (ownFrom_pure _ _)) (ownFrom_below (by rw [hz']; omega) (by rw [hz']; omega)))
          ⟨⟨bS0, bR0⟩, Below.refl _ _, by simp⟩
          (fun x a' W => ∃ B1 B2, (Has W B1 #[.int .i64 x.1.1.x, .int .i64 x.1.1.y] 31 ∧ Has W B2 #[.int .i64 x.1.2.x, .int .i64 x.1.2.y] 31) ∧ a' = { tmps := #[.slice (some ⟨b, o, none⟩) l.length (l.length + cap), .pointer (some ⟨w.heap.size, 0, none⟩), .pointer (some ⟨w.heap.size + 1, 0, none⟩), u3, u4, .pointer (some ⟨B1, 0, none⟩), .pointer (some ⟨B2, 0, none⟩), undef, undef, .slice (some ⟨b, o, none⟩) l.length (l.length + cap), .int .i64 (l.length : Int), .bool false, .bool false, .slice (some ⟨b, o, none⟩) l.length (l.length + cap), .int .i64 (l.length : Int), .bool false, .bool false, .slice (some ⟨b, o, none⟩) l.length (l.length + cap), .int .i64 (l.length : Int), .int .i64 (l.length : Int), .bool false, u21, u22, u23, u24, u25, u26, u27, u28, u29, u30, u31, u32, u33, u34, u35, u36, u37, u38, u39, .slice (some ⟨b, o, none⟩) l.length (l.length + cap), .int .i64 (l.length : Int), .bool false, .slice (some ⟨b, o, none⟩) l.length (l.length + cap), .func (.func 103) #[] #[.pointer (some ⟨wr.heap.size, 0, none⟩)], .agg #[.int .i64 x.1.1.x, .int .i64 x.1.1.y], .agg #[.int .i64 x.1.2.x, .int .i64 x.1.2.y], undef, undef, undef, undef, undef, undef, undef, undef, undef, undef, undef, undef, undef, undef, undef, undef, undef, undef, undef, undef, undef, undef], defers := [] })
          (fun x a' _ X Y row hs hg hr => by obtain ⟨B1, B2, ⟨g1, g2⟩, g3⟩ := hs; exact ⟨B1, B2, ⟨has_kept g1 hg (fun r e => (hr r e).2), has_kept g2 hg (fun r e => (hr r e).2)⟩, g3⟩)
          ?assign ?body ?done ?stop
        case assign =>
          rintro ll pre x W K ⟨⟨bS1, bR1⟩, hB1, hp1⟩ hK
          unfold encS
          gi_wp2
          have hzW := hB1.size
          exact hK _ _ (((KeepsOthers.alloc _ _).trans (KeepsOthers.alloc _ _)).from _) (((Below.refl _ W).alloc (by omega) _).alloc (by simp; omega) _)
            ⟨⟨(bS1.alloc _).alloc _, (bR1.alloc _).alloc _⟩, (hB1.alloc (by omega) _).alloc (by simp; omega) _, hp1⟩
            ⟨W.heap.size, W.heap.size + 1, ⟨Has.below (Has.new W _ _) ((Below.refl (W.heap.size + 1) _).alloc (by simp) _) (by omega), by have := Has.new (W.alloc (.cells #[.int .i64 x.1.1.x, .int .i64 x.1.1.y] 31)) #[.int .i64 x.1.2.x, .int .i64 x.1.2.y] 31; rwa [World.size_alloc] at this⟩, rfl⟩
        case body =>
          rintro ll pre ⟨⟨⟨ax, ay⟩, ⟨bx, by'⟩⟩, hxx⟩ a' W hll ⟨r, hr⟩ ⟨⟨bS1, bR1⟩, hB1, hp1⟩ ⟨B1, B2, ⟨g1, g2⟩, rfl⟩ hlt
          dsimp only at g1 g2 ⊢
          have pa := placeB_true hxx.1
          have pb := placeB_true hxx.2
          dsimp only at pa pb
          obtain ⟨S, hS⟩ : ∃ S : PlS, S = ⟨(⟨ax, ay⟩, ⟨bx, by'⟩), hxx⟩ := ⟨_, rfl⟩
          rw [← hS]
          have HS : Hid (S.1 = (⟨ax, ay⟩, ⟨bx, by'⟩)) := by show S.1 = _; rw [hS]
          clear hS
          have hzW := hB1.size
          have hBw := hBa.trans hB1
          have c0 := bS1.cell
          have hll' := Lib.hid hll
          have hr' := Lib.hid hr
          have hlt' := Lib.hid hlt
          clear hll hr hlt hxx
          gi_wp2
          gi_loopw [49] (fun i wv => ∃ k : Nat, k ≤ l.length ∧ i = .int .i64 k ∧ okTo l ⟨ax, ay⟩ ⟨bx, by'⟩ k ∧ Below W.heap.size W wv) (fun i _ => l.length - (intOf i).toNat)
          case atStart => exact ⟨0, Nat.zero_le _, rfl, fun j h => by omega, Below.refl _ _⟩
          case round =>
            obtain ⟨k, hk, rfl, hok, hv⟩ := hrel
            by_cases hlk : k < l.length
            · have hbv := hBw.trans (hv.mono (by have := hBw.size; omega))
              have c1 := (hbv.cell (p := ⟨b, o + k * 2, none⟩) hb).trans (hc'.out k hlk).1
              have c2 := (hbv.cell (p := ⟨b, o + k * 2 + 1, none⟩) hb).trans (hc'.out k hlk).2
              have pp := placeB_true (hall'.out k hlk).1
              obtain ⟨px, py, hN⟩ : ∃ px py, nth l k = ⟨px, py⟩ := ⟨_, _, rfl⟩
              rw [hN] at c1 c2 pp
              dsimp only at c1 c2 pp
              have HN := Lib.hid hN
              have hok' := Lib.hid hok
              have hp1' := Lib.hid hp1
              have G1 := g1.below hv g1.lt
              have G2 := g2.below hv g2.lt
              have bRv := Boxed.below bR1 hv bR1.lt
              have hzv := hv.size
              clear hN hok hp1
              have hv2 : Below wr.heap.size wr (wr.alloc (.cells #[.int .i64 px, .int .i64 py] 31)) := (Below.refl _ wr).alloc (Nat.le_refl _) _
              have a1 := (hv2.cell (p := ⟨B1, 0, none⟩) G1.lt).trans (G1.cell (i := 0) rfl)
              have a2 := (hv2.cell (p := ⟨B1, 1, none⟩) G1.lt).trans (G1.cell (i := 1) rfl)
              have a3 := (hv2.cell (p := ⟨B2, 0, none⟩) G2.lt).trans (G2.cell (i := 0) rfl)
              have a4 := (hv2.cell (p := ⟨B2, 1, none⟩) G2.lt).trans (G2.cell (i := 1) rfl)
              have HG := Lib.hid (And.intro G1 G2)
              have HR1 := Lib.hid (And.intro bS1 bR1)
              have HRv := Lib.hid bRv
              clear G1 G2 bS1 bR1 bRv
              rcases pt_cases px py ax ay bx by' with h | h
              · rcases h with ⟨rfl, rfl⟩ | ⟨rfl, hn, rfl, rfl⟩ | ⟨hn, rfl, rfl⟩
                all_goals
                  gi_wp2
                  refine ⟨trivial, ?_⟩
                  gi_wp2
                  go_roundw
                  case rel => exact ⟨k + 1, by omega, by simp, okTo_skip hok'.out (by first | exact Or.inl HN.out | exact Or.inr HN.out), hv.alloc (by omega) _⟩
                  case measure => simp [intOf]; omega
              · have hne : nth l k ≠ ⟨ax, ay⟩ ∧ nth l k ≠ ⟨bx, by'⟩ := by
                  rw [HN.out]
                  constructor
                  · exact Pt.ne_of (by dsimp only; omega)
                  · exact Pt.ne_of (by dsimp only; omega)
                have hT : turnP ⟨ax, ay⟩ ⟨bx, by'⟩ (nth l k) = turnV ax ay bx by' px py := by rw [HN.out]; rfl
                have HNE := Lib.hid hne
                have HT := Lib.hid hT
                clear hne hT
                by_cases ht : turnV ax ay bx by' px py ≤ 0
                · have dt : decide (turnV ax ay bx by' px py ≤ 0) = true := by simpa using ht
                  have Ht := Lib.hid ht
                  clear ht
                  rcases h with ⟨rfl, hn, rfl, hm⟩ | ⟨rfl, hn, hm⟩ | ⟨hn, rfl, hm⟩ | ⟨hn, hm⟩
                  all_goals
                    gi_wp2_with (refine ⟨trivial, ?_⟩; gi_at_call 55; refine (CallsIn.inRound ll (callsIn_wide.2 (turn_any _ _ _ _ _ _ _ (by omega) (by omega) (by omega) (by omega) (by omega) (by omega) (by omega) (by omega) (by omega) (by omega) (by omega) (by omega)))).mono ?_; rintro e w2 ⟨rfl, hb2⟩; have bR2 := Boxed.below (HRv.out.alloc (.cells #[.int .i64 px, .int .i64 py] 31)) hb2 (by rw [World.size_alloc]; have := HRv.out.lt; omega); have q0 := bR2.cell; have q1 := bR2.frozen)
                    have hz2 := hb2.size
                    rw [World.size_alloc] at hz2
                    have hW2 : Below W.heap.size W w2 := (hv.alloc (by omega) _).trans (hb2.mono (by rw [World.size_alloc]; omega))
                    exact ⟨(keeps_of_below hW2).trans ((KeepsOthers.setCell _ _ _).from _), ⟨bR2.set _, rfl, S, by simp, fun h => by
                      rw [HS.out] at h
                      have h4 := h k hlk HNE.out.1 HNE.out.2
                      rw [HT.out] at h4
                      have := Ht.out
                      omega⟩, (hB1.trans (hW2.mono (by omega))).setCell (by simp) _⟩
                · have dt : decide (turnV ax ay bx by' px py ≤ 0) = false := by simpa using ht
                  have Ht := Lib.hid ht
                  clear ht
                  rcases h with ⟨rfl, hn, rfl, hm⟩ | ⟨rfl, hn, hm⟩ | ⟨hn, rfl, hm⟩ | ⟨hn, hm⟩
                  all_goals
                    gi_wp2_with (refine ⟨trivial, ?_⟩; gi_at_call 55; refine (CallsIn.inRound ll (callsIn_wide.2 (turn_any _ _ _ _ _ _ _ (by omega) (by omega) (by omega) (by omega) (by omega) (by omega) (by omega) (by omega) (by omega) (by omega) (by omega) (by omega)))).mono ?_; rintro e w2 ⟨rfl, hb2⟩)
                    have hz2 := hb2.size
                    rw [World.size_alloc] at hz2
                    go_roundw
                    case rel => exact ⟨k + 1, by omega, by simp, okTo_more hok'.out (by rw [HT.out]; have := Ht.out; omega), (hv.alloc (by omega) _).trans (hb2.mono (by rw [World.size_alloc]; omega))⟩
                    case measure => simp [intOf]; omega
            · have hv' := Lib.hid hv
              have hok' : Hid (sideOk l S.1) := by show sideOk l S.1; rw [HS.out]; intro j hj; exact hok j (by omega)
              have hp1' := Lib.hid hp1
              clear hok hp1
              obtain rfl : k = l.length := by omega
              gi_wp2
              exact ⟨keeps_of_below hv'.out, hv'.out.mono (by omega), ⟨Boxed.below bS1 hv'.out bS1.lt, Boxed.below bR1 hv'.out bR1.lt⟩, hB1.trans (hv'.out.mono (by omega)), fun s hs => by
                rcases List.mem_append.1 hs with hs | hs
                · exact hp1'.out s hs
                · obtain rfl : s = S := by simpa using hs
                  exact hok'.out⟩
        case done =>
          rintro D ys W hD rfl ⟨⟨bS1, bR1⟩, hB1, hp1⟩ hK
          have hr : goValid l = true := by
            simp only [goValid, decide_eq_true_eq]
            exact ⟨h1, h2, hall'.out, fun _ i hi => hp1 ⟨sideP l i, hpl i⟩ (mem_upto.2 ⟨i, hi, rfl⟩)⟩
          have HR := Lib.hid hr
          have hzW := hB1.size
          clear hr hp1
          have q0 := bR1.cell
          have q1 := bR1.frozen
          have hK' := (KeepsOthers.setCell W ⟨w.heap.size + 1, 0, none⟩ (.bool true)).same D _ hK rfl
          have hc5 := cell_kept (World.cell?_setCell_same' W ⟨w.heap.size + 1, 0, none⟩ (.bool true) (by rw [q0]; rfl)) (grownBy_putObj' _ D (.deferred none)) (fun r e => by cases e; exact ⟨_, hK', rfl⟩)
          have HK := Lib.hid hK'
          have HC := Lib.hid hc5
          clear hK' hc5
          go_wp2
          refine ⟨by simp, .inl ⟨_, _, rfl, run_takeDeferred HK.out, ?_⟩⟩
          refine ⟨.bool true, by simp [results, Tryz.f50, go_sem, HC.out], ret_bool HR.out.symm, ?_⟩
          exact ((hBa.trans hB1).setCell (p := ⟨w.heap.size + 1, 0, none⟩) (by simp) _).trans (belowK_b (w := w) (Nat.le_refl _) _ D _ _ (by omega) HK.out rfl rfl)
        case stop =>
          rintro D c pre W hD ⟨k2, hk2, rfl⟩ ⟨⟨bR1, rfl, s, hs, hns⟩, hB1⟩ hK
          have hr : goValid l = false := by
            simp only [goValid, decide_eq_false_iff_not]
            rintro ⟨_, _, _, h4⟩
            obtain ⟨i, hi, rfl⟩ := mem_upto.1 hs
            exact hns (h4 (by omega) i (by omega))
          have HR := Lib.hid hr
          have hzW := hB1.size
          clear hr hns hs
          have hc5 := cell_kept bR1.cell (grownBy_putObj' _ D (.deferred none)) (fun r e => by cases e; exact ⟨_, hK, rfl⟩)
          have HK := Lib.hid hK
          have HC := Lib.hid hc5
          clear hK hc5
          refine wpIn_wide.2 ?_
          go_wp2
          refine ⟨by simp, .inl ⟨_, _, rfl, run_takeDeferred HK.out, ?_⟩⟩
          refine ⟨.bool false, by simp [results, Tryz.f50, go_sem, HC.out], ret_bool HR.out.symm, ?_⟩
          exact (hBa.trans hB1).trans (belowK_b (w := w) (Nat.le_refl _) _ D _ _ (by omega) HK.out rfl rfl)

theorem hullValid_any (v : Value) (l : List Pt) (w : World) (hp : PtsAt w.heap.size w v l) :
    Calls Tryz.prog 50 #[v] w fun e w' => e = .returned (.bool (goValid l)) ∧ Below w.heap.size w w' := by
  by_cases h : 1 ≤ l.length ∧ l.length ≤ 64
  · exact hullValid_two v l w hp h.1 h.2
  · exact hullValid_size v l w hp (by omega)
end Go.Proofs.YtfbdidfaeplllaaGreat

namespace Go.Proofs.YtfbdidfaeplllaaGreat
open Go.RowKit
attribute [local irreducible] wpQuiet

/-- the cells of a boxed mission -/
theorem msn_cells {W : World} {B : Nat} {m : Msn} {vw vh vr : Value} {T : TypeId} (H : Has W B (msnCells m vw vh vr) T) : W.cell? ⟨B, 0, none⟩ = some vw ∧ W.cell? ⟨B, 1, none⟩ = some vh ∧ W.cell? ⟨B, 2, none⟩ = some (.int .i64 m.start) ∧ W.cell? ⟨B, 3, none⟩ = some vr ∧ W.cell? ⟨B, 4, none⟩ = some (.int .i64 m.speed) ∧ W.cell? ⟨B, 5, none⟩ = some (.int .i64 m.part) ∧ W.cell? ⟨B, 6, none⟩ = some (.int .i64 m.flow) ∧ W.cell? ⟨B, 7, none⟩ = some (.int .i64 m.idle) ∧ W.cell? ⟨B, 8, none⟩ = some (.int .i64 m.drive) ∧ W.cell? ⟨B, 9, none⟩ = some (.int .i64 m.battery) ∧ W.cell? ⟨B, 10, none⟩ = some (.int .i64 m.deadline) :=
  ⟨H.cell (i := 0) rfl, H.cell (i := 1) rfl, H.cell (i := 2) rfl, H.cell (i := 3) rfl, H.cell (i := 4) rfl, H.cell (i := 5) rfl, H.cell (i := 6) rfl, H.cell (i := 7) rfl, H.cell (i := 8) rfl, H.cell (i := 9) rfl, H.cell (i := 10) rfl⟩
theorem msn_low {W : World} {B : Nat} {m : Msn} {vw vh vr : Value} {T : TypeId} (H : Has W B (msnCells m vw vh vr) T) : (∀ w1, Low W w1 → w1.cell? ⟨B, 0, none⟩ = some vw) ∧ (∀ w1, Low W w1 → w1.cell? ⟨B, 1, none⟩ = some vh) ∧ (∀ w1, Low W w1 → w1.cell? ⟨B, 2, none⟩ = some (.int .i64 m.start)) ∧ (∀ w1, Low W w1 → w1.cell? ⟨B, 3, none⟩ = some vr) ∧ (∀ w1, Low W w1 → w1.cell? ⟨B, 4, none⟩ = some (.int .i64 m.speed)) ∧ (∀ w1, Low W w1 → w1.cell? ⟨B, 5, none⟩ = some (.int .i64 m.part)) ∧ (∀ w1, Low W w1 → w1.cell? ⟨B, 6, none⟩ = some (.int .i64 m.flow)) ∧ (∀ w1, Low W w1 → w1.cell? ⟨B, 7, none⟩ = some (.int .i64 m.idle)) ∧ (∀ w1, Low W w1 → w1.cell? ⟨B, 8, none⟩ = some (.int .i64 m.drive)) ∧ (∀ w1, Low W w1 → w1.cell? ⟨B, 9, none⟩ = some (.int .i64 m.battery)) ∧ (∀ w1, Low W w1 → w1.cell? ⟨B, 10, none⟩ = some (.int .i64 m.deadline)) :=
  ⟨Low.fact (H.cell (i := 0) rfl), Low.fact (H.cell (i := 1) rfl), Low.fact (H.cell (i := 2) rfl), Low.fact (H.cell (i := 3) rfl), Low.fact (H.cell (i := 4) rfl), Low.fact (H.cell (i := 5) rfl), Low.fact (H.cell (i := 6) rfl), Low.fact (H.cell (i := 7) rfl), Low.fact (H.cell (i := 8) rfl), Low.fact (H.cell (i := 9) rfl), Low.fact (H.cell (i := 10) rfl)⟩

theorem up31_any (a b : Int) (w : World) (ha : 0 ≤ a) (ha' : a ≤ 1000000000000) (hb : 1 ≤ b) (hb' : b ≤ 1000000000000) :
    Calls Tryz.prog 152 #[.int .i64 a, .int .i64 b] w fun e w' => e = .returned (.int .i64 (cdiv a b)) ∧ Below w.heap.size w w' := by
  have e : ceilV a b = cdiv a b := by
    have : badQ a b = false := by simp [badQ, wideB_mk (n := a) (by omega) ha', wideB_mk (n := b) (by omega) hb']; omega
    simp [ceilV, this]
  rw [← e]; clear e
  go_enter Tryz.func152, Tryz.ntmps152
  go_wp2_with (go_at_call 172; refine (ceil_any _ _ _).mono ?_; rintro e w1 ⟨rfl, hb1⟩; have hz1 := hb1.size; try simp at hz1)
  go_ret
  exact ⟨rfl, by repeat (first | exact Below.refl _ _ | assumption | apply Below.drew | refine Below.setCell ?_ (by first | omega | (simp; done) | (simp; omega)) _ | refine Below.alloc ?_ (by first | omega | (simp; done) | (simp; omega)) _ | refine Below.call (by assumption) ?_ (by first | omega | (simp; done) | (simp; omega)))⟩




end Go.Proofs.YtfbdidfaeplllaaGreat

namespace Go.Proofs.YtfbdidfaeplllaaGreat
open Go.RowKit
attribute [local irreducible] wpQuiet

/-- the square of a distance -/
def dsq (a b : Pt) : Int := (a.x - b.x) * (a.x - b.x) + (a.y - b.y) * (a.y - b.y)
/-- the greatest one of a place from the first k of others -/
def farK (x : Pt) (l : List Pt) : Nat → Int
  | 0 => 0
  | k + 1 => if farK x l k < dsq x (nth l k) then dsq x (nth l k) else farK x l k
/-- the greatest one of the first k places from others -/
def reachK (a b : List Pt) : Nat → Int
  | 0 => 0
  | k + 1 => if reachK a b k < farK (nth a k) b b.length then farK (nth a k) b b.length else reachK a b k
noncomputable def trB (a b : List Pt) : Bool := goValid a && goValid b
/-- the range of two polygons -/
noncomputable def rangeV (a b : List Pt) : Int := if trB a b = true then rootUp (reachK a b a.length) else 0
noncomputable def rangeE (a b : List Pt) : Int := if trB a b = true then 0 else 1
theorem dsq_bd {a b : Pt} (ha : placeP a = true) (hb : placeP b = true) : (-1000000 ≤ a.x - b.x ∧ a.x - b.x ≤ 1000000 ∧ -1000000 ≤ a.y - b.y ∧ a.y - b.y ≤ 1000000) ∧ 0 ≤ (a.x - b.x) * (a.x - b.x) ∧ (a.x - b.x) * (a.x - b.x) ≤ 1000000000000 ∧ 0 ≤ (a.y - b.y) * (a.y - b.y) ∧ (a.y - b.y) * (a.y - b.y) ≤ 1000000000000 ∧ 0 ≤ dsq a b ∧ dsq a b ≤ 2000000000000 := by
  have pa := placeB_true (show placeB a.x a.y = true from ha)
  have pb := placeB_true (show placeB b.x b.y = true from hb)
  have s1 := sq_bd (a := a.x - b.x) (m := 1000000) (by omega) (by omega)
  have s2 := sq_bd (a := a.y - b.y) (m := 1000000) (by omega) (by omega)
  unfold dsq
  omega
theorem farK_bd {x : Pt} {l : List Pt} (hx : placeP x = true) (hl : ∀ k, k < l.length → placeP (nth l k) = true) : ∀ k, k ≤ l.length → 0 ≤ farK x l k ∧ farK x l k ≤ 2000000000000
  | 0, _ => by simp [farK]
  | k + 1, h => by
    have a := farK_bd hx hl k (by omega)
    have b := (dsq_bd hx (hl k (by omega))).2.2.2.2.2
    simp only [farK]
    split <;> omega
theorem reachK_bd {a b : List Pt} (ha : ∀ k, k < a.length → placeP (nth a k) = true) (hb : ∀ k, k < b.length → placeP (nth b k) = true) : ∀ k, k ≤ a.length → 0 ≤ reachK a b k ∧ reachK a b k ≤ 2000000000000
  | 0, _ => by simp [reachK]
  | k + 1, h => by
    have c := reachK_bd ha hb k (by omega)
    have d := farK_bd (ha k (by omega)) hb b.length (Nat.le_refl _)
    simp only [reachK]
    split <;> omega

set_option maxHeartbeats 800000 in
set_option maxRecDepth 8000 in
theorem troot_any (n : Int) (w : World) (h1 : 0 ≤ n) (h2 : n ≤ 2000000000000) :
    Calls Tryz.prog 52 #[.int .i64 n] w fun e w' => e = .returned (.int .i64 (rootUp n)) ∧ Below w.heap.size w w' := by
  have hi := isqrt_le (m := n.toNat) (n := 2000000) (by omega)
  have hs := (isqrt_spec n.toNat).1
  have hm : IntKind.i64.wrap ((isqrt n.toNat : Int) * isqrt n.toNat) = (isqrt n.toNat : Int) * isqrt n.toNat := IntWalk.i64_in _ (by
    have : (isqrt n.toNat : Int) * isqrt n.toNat = ((isqrt n.toNat * isqrt n.toNat : Nat) : Int) := by simp
    omega)
  have hp : IntKind.i64.wrap ((isqrt n.toNat : Int) + 1) = (isqrt n.toNat : Int) + 1 := IntWalk.i64_in _ (by omega)
  have hb : badN n = false := by simp [badN]; omega
  have e1 : rootV n = isqrt n.toNat := by simp [rootV, hb]
  have e2 : rootE n = 0 := by simp [rootE, hb]
  have fr := fun w1 => root_any n w1
  rw [e1, e2] at fr
  clear hs hi e1 e2 hb
  unfold rootUp
  generalize (isqrt n.toNat : Int) = r at *
  replace fr := Lib.hid fr
  by_cases hlt : r * r < n
  · rw [if_pos hlt]
    have d : decide (r * r < n) = true := by simpa using hlt
    clear hlt
    go_enter Tryz.func52, Tryz.ntmps52
    go_wp2_with fail
    refine (fr.out _).mono ?_
    rintro e w1 ⟨rfl, b1⟩
    go_wp2
    go_ret
    exact ⟨rfl, b1⟩
  · rw [if_neg hlt]
    have d : decide (r * r < n) = false := by simpa using hlt
    clear hlt
    go_enter Tryz.func52, Tryz.ntmps52
    go_wp2_with fail
    refine (fr.out _).mono ?_
    rintro e w1 ⟨rfl, b1⟩
    go_wp2
    go_ret
    exact ⟨rfl, b1⟩

set_option linter.unusedSimpArgs false in
set_option linter.unusedVariables false in
set_option maxHeartbeats 1600000 in
set_option maxRecDepth 8000 in
theorem farthest_any (x : Pt) (v : Value) (l : List Pt) (w : World) (hp : PtsAt w.heap.size w v l) (hx : placeP x = true) (hl : ∀ k, k < l.length → placeP (nth l k) = true) :
    Calls Tryz.prog 51 #[.agg #[.int .i64 x.x, .int .i64 x.y], v] w fun e w' => e = .returned (.int .i64 (farK x l l.length)) ∧ Below w.heap.size w w' := by
  obtain ⟨hll, a, cap, rfl, hc⟩ := hp
  have hcH := Lib.hid hc
  have HD := Lib.hid (fun k (hk : k < l.length) => And.intro (dsq_bd hx (hl k hk)) (farK_bd hx hl k (by omega)))
  have HF := Lib.hid (fun k => show farK x l (k + 1) = if farK x l k < dsq x (nth l k) then dsq x (nth l k) else farK x l k from rfl)
  clear hc hl hx
  have q0 := Has.new w #[.int .i64 x.x, .int .i64 x.y] 31
  have BX := Lib.hid (show Below w.heap.size w (w.alloc (.cells #[.int .i64 x.x, .int .i64 x.y] 31)) from (Below.refl _ _).alloc (Nat.le_refl _) _)
  go_enter Tryz.func51, Tryz.ntmps51
  go_wp2
  have HX := Lib.hid (show Has (w.alloc (.cells #[.int .i64 x.x, .int .i64 x.y] 31)) w.heap.size #[.int .i64 x.x, .int .i64 x.y] 31 from q0)
  generalize hXX0 : (w.alloc (.cells #[.int .i64 x.x, .int .i64 x.y] 31)) = X0 at *
  clear hXX0 q0
  go_loopw [5, 12] (fun n i wr => ∃ k : Nat, k ≤ l.length ∧ i = .int .i64 (k : Int) ∧ n = .int .i64 (farK x l k) ∧ Below X0.heap.size X0 wr) (fun _ i _ => l.length - (intOf i).toNat)
  case atStart => exact ⟨0, by omega, rfl, rfl, Below.refl _ _⟩
  case round =>
    obtain ⟨k, hk, rfl, rfl, hB⟩ := hrel
    have hzB := hB.size
    by_cases hlt : k < l.length
    · obtain ⟨b, o, rfl, hb, hcl⟩ : ∃ b o, a = some ⟨b, o, none⟩ ∧ b < w.heap.size ∧ ∀ j, j < l.length → w.cell? ⟨b, o + j * 2, none⟩ = some (.int .i64 (nth l j).x) ∧ w.cell? ⟨b, o + j * 2 + 1, none⟩ = some (.int .i64 (nth l j).y) := by
        rcases hcH.out with h | h
        · rw [h] at hlt; simp at hlt
        · exact h
      have BR := BX.out.trans (hB.mono BX.out.size)
      have p0 := (BR.cell (p := ⟨b, o + k * 2, none⟩) hb).trans (hcl k hlt).1
      have p1 := (BR.cell (p := ⟨b, o + k * 2 + 1, none⟩) hb).trans (hcl k hlt).2
      obtain ⟨⟨g0, g1, g2, g3, g4, g5, g6⟩, g7⟩ := HD.out k hlt
      have hF := HF.out k
      have HXr := HX.out.below hB HX.out.lt
      have HXa := HXr.below ((Below.refl wr.heap.size wr).alloc (Nat.le_refl _) (.cells #[.int .i64 (nth l k).x, .int .i64 (nth l k).y] 31)) HXr.lt
      have x0 := Low.fact (show (wr.alloc (.cells #[.int .i64 (nth l k).x, .int .i64 (nth l k).y] 31)).cell? ⟨w.heap.size, 0, none⟩ = some (.int .i64 x.x) from HXa.cell (i := 0) rfl)
      have x1 := Low.fact (show (wr.alloc (.cells #[.int .i64 (nth l k).x, .int .i64 (nth l k).y] 31)).cell? ⟨w.heap.size, 1, none⟩ = some (.int .i64 x.y) from HXa.cell (i := 1) rfl)
      clear HXa
      have dk : decide ((k : Int) < (l.length : Int)) = true := by simp; omega
      have kl : (k : Int) < l.length := by omega
      have k0 : (0 : Int) ≤ k := by omega
      unfold dsq at g5 g6 hF
      generalize farK x l k = F0 at *
      generalize (nth l k).x = yx at *
      generalize (nth l k).y = yy at *
      obtain ⟨dx, hdx⟩ : ∃ t, t = x.x - yx := ⟨_, rfl⟩
      obtain ⟨dy, hdy⟩ : ∃ t, t = x.y - yy := ⟨_, rfl⟩
      simp only [← hdx, ← hdy] at g0 g1 g2 g3 g4 g5 g6 hF
      have z1 : IntKind.i64.wrap (x.x - yx) = dx := by rw [← hdx]; exact IntWalk.i64_in _ (by omega)
      have z2 : IntKind.i64.wrap (x.y - yy) = dy := by rw [← hdy]; exact IntWalk.i64_in _ (by omega)
      have z3 : IntKind.i64.wrap (dx * dx) = dx * dx := IntWalk.i64_in _ (by omega)
      have z4 : IntKind.i64.wrap (dy * dy) = dy * dy := IntWalk.i64_in _ (by omega)
      have z5 : IntKind.i64.wrap (dx * dx + dy * dy) = dx * dx + dy * dy := IntWalk.i64_in _ (by omega)
      have hFF := Lib.hid hF
      have BA := Lib.hid (hB.alloc hzB (.cells #[.int .i64 yx, .int .i64 yy] 31))
      clear hdx hdy g0 g1 g2 g3 g4 g5 g6 g7 hF hcl BR HXr hB
      go_wp2
      (refine wp_region_low (by kernel_rfl) (by kernel_rfl) ?_; (iterate 12 (apply quiet_want; (case hw => rfl); (case hval => (intro w1 hw1; have hcx := Low.cells hw1; simp only [Oper.quietAt]; go_simp; first | done | (first | fail) | rfl | exact ⟨rfl, rfl⟩)); simp only [Act.put, List.setIfInBounds_toArray, List.set_cons_zero, List.set_cons_succ])); refine wpQuiet_nil ?_; intro w2 hw2)
      have BZ := Lib.hid (BA.out.trans (hw2.out.mono BA.out.size))
      clear hw2 x0 x1 p0 p1
      go_wp2
      go_roundw
      case rel => exact ⟨k + 1, by omega, by go_num, by rw [hFF.out], BZ.out⟩
      case measure => simp [intOf]; omega
    · obtain rfl : k = l.length := by omega
      have dk : decide ((l.length : Int) < (l.length : Int)) = false := by simp
      have BZ := Lib.hid (BX.out.trans (hB.mono BX.out.size))
      clear hB
      go_wp2
      go_ret
      exact ⟨rfl, BZ.out⟩

set_option linter.unusedSimpArgs false in
set_option linter.unusedVariables false in
set_option maxHeartbeats 1600000 in
set_option maxRecDepth 8000 in
theorem range_any (va vb : Value) (a b : List Pt) (w : World) (ha : PtsAt w.heap.size w va a) (hb : PtsAt w.heap.size w vb b) :
    Calls Tryz.prog 21 #[va, vb] w fun e w' => e = .returned (.tuple #[.int .i64 (rangeV a b), .int .i64 (rangeE a b)]) ∧ Below w.heap.size w w' := by
  have f1 := fun w1 h => hullValid_any va a w1 h
  have f2 := fun w1 h => hullValid_any vb b w1 h
  have PA := Lib.hid ha
  have PB := Lib.hid hb
  have B0 := Lib.hid (Below.refl w.heap.size w)
  clear ha hb
  cases h1 : goValid a
  · have e1 : rangeV a b = 0 := by simp [rangeV, trB, h1]
    have e2 : rangeE a b = 1 := by simp [rangeE, trB, h1]
    rw [h1] at f1
    rw [e1, e2]
    replace f1 := Lib.hid f1
    clear h1 e1 e2 f2
    go_enter Tryz.func21, Tryz.ntmps21
    go_wp2_with fail
    refine (f1.out _ PA.out).mono ?_
    rintro e w1 ⟨rfl, b1⟩
    go_wp2
    go_ret2
    exact ⟨rfl, b1⟩
  rw [h1] at f1
  replace f1 := Lib.hid f1
  cases h2 : goValid b
  · have e1 : rangeV a b = 0 := by simp [rangeV, trB, h2]
    have e2 : rangeE a b = 1 := by simp [rangeE, trB, h2]
    rw [h2] at f2
    rw [e1, e2]
    replace f2 := Lib.hid f2
    clear h1 h2 e1 e2
    go_enter Tryz.func21, Tryz.ntmps21
    go_wp2_with fail
    refine (f1.out _ PA.out).mono ?_
    rintro e w1 ⟨rfl, b1⟩
    replace PB := Lib.hid ((PB.out.below b1).mono b1.size)
    have B1 := Lib.hid (B0.out.trans (b1.mono B0.out.size))
    clear b1
    go_wp2_with fail
    refine (f2.out _ PB.out).mono ?_
    rintro e w2 ⟨rfl, b2⟩
    have B2 := Lib.hid (B1.out.trans (b2.mono B1.out.size))
    clear b2
    go_wp2
    go_ret2
    exact ⟨rfl, B2.out⟩
  rw [h2] at f2
  replace f2 := Lib.hid f2
  have e1 : rangeV a b = rootUp (reachK a b a.length) := by simp [rangeV, trB, h1, h2]
  have e2 : rangeE a b = 0 := by simp [rangeE, trB, h1, h2]
  rw [e1, e2]
  have G1 : GoValid a := by simpa [goValid] using h1
  have G2 : GoValid b := by simpa [goValid] using h2
  have pa := fun k hk => (G1.2.2.1 k hk).1
  have pb := fun k hk => (G2.2.2.1 k hk).1
  have FF := Lib.hid (fun k (hk : k < a.length) v w1 h => farthest_any (nth a k) v b w1 h (pa k hk) pb)
  have FR := Lib.hid (fun w1 => troot_any (reachK a b a.length) w1 (reachK_bd pa pb _ (Nat.le_refl _)).1 (reachK_bd pa pb _ (Nat.le_refl _)).2)
  have HF := Lib.hid (fun k => show reachK a b (k + 1) = if reachK a b k < farK (nth a k) b b.length then farK (nth a k) b b.length else reachK a b k from rfl)
  clear e1 e2 G1 G2 pa pb h1 h2
  go_enter Tryz.func21, Tryz.ntmps21
  go_wp2_with fail
  refine (f1.out _ PA.out).mono ?_
  rintro e w1 ⟨rfl, b1⟩
  replace PA := Lib.hid ((PA.out.below b1).mono b1.size)
  replace PB := Lib.hid ((PB.out.below b1).mono b1.size)
  have B1 := Lib.hid (B0.out.trans (b1.mono B0.out.size))
  clear b1
  go_wp2_with fail
  refine (f2.out _ PB.out).mono ?_
  rintro e w2 ⟨rfl, b2⟩
  replace PA := Lib.hid ((PA.out.below b2).mono b2.size)
  replace PB := Lib.hid ((PB.out.below b2).mono b2.size)
  have B2 := Lib.hid (B1.out.trans (b2.mono B1.out.size))
  clear b2
  obtain ⟨hll, aa, cap, hva, hc⟩ := PA.out
  subst hva
  have hcH := Lib.hid hc
  clear hc
  go_wp2
  go_loopw [6, 19] (fun n i wr => ∃ k : Nat, k ≤ a.length ∧ i = .int .i64 (k : Int) ∧ n = .int .i64 (reachK a b k) ∧ Below w2.heap.size w2 wr) (fun _ i _ => a.length - (intOf i).toNat)
  case atStart => exact ⟨0, by omega, rfl, rfl, Below.refl _ _⟩
  case round =>
    obtain ⟨k, hk, rfl, rfl, hB⟩ := hrel
    have hzB := hB.size
    by_cases hlt : k < a.length
    · obtain ⟨bb, o, rfl, hb, hcl⟩ : ∃ b o, aa = some ⟨b, o, none⟩ ∧ b < w2.heap.size ∧ ∀ j, j < a.length → w2.cell? ⟨b, o + j * 2, none⟩ = some (.int .i64 (nth a j).x) ∧ w2.cell? ⟨b, o + j * 2 + 1, none⟩ = some (.int .i64 (nth a j).y) := by
        rcases hcH.out with h | h
        · rw [h] at hlt; simp at hlt
        · exact h
      have p0 := (hB.cell (p := ⟨bb, o + k * 2, none⟩) hb).trans (hcl k hlt).1
      have p1 := (hB.cell (p := ⟨bb, o + k * 2 + 1, none⟩) hb).trans (hcl k hlt).2
      have hF := Lib.hid (HF.out k)
      have fk := FF.out k hlt
      have dk : decide ((k : Int) < (a.length : Int)) = true := by simp; omega
      have kl : (k : Int) < a.length := by omega
      have k0 : (0 : Int) ≤ k := by omega
      have BA := Lib.hid (show Below wr.heap.size wr (wr.alloc (.cells #[.int .i64 (nth a k).x, .int .i64 (nth a k).y] 31)) from (Below.refl _ _).alloc (Nat.le_refl _) _)
      have BB := Lib.hid (hB.trans (BA.out.mono hzB))
      have PBr := Lib.hid ((PB.out.below BB.out).mono BB.out.size)
      replace fk := Lib.hid fk
      generalize farK (nth a k) b b.length = F1 at *
      generalize (nth a k).x = yx at *
      generalize (nth a k).y = yy at *
      clear hcl hB
      go_wp2_with fail
      refine (fk.out _ _ PBr.out).mono ?_
      rintro e w3 ⟨rfl, b3⟩
      have BZ := Lib.hid (BB.out.trans (b3.mono BB.out.size))
      clear b3 p0 p1
      go_wp2
      go_roundw
      case rel => exact ⟨k + 1, by omega, by go_num, by rw [hF.out], BZ.out⟩
      case measure => simp [intOf]; omega
    · obtain rfl : k = a.length := by omega
      have dk : decide ((a.length : Int) < (a.length : Int)) = false := by simp
      have BZ := Lib.hid (B2.out.trans (hB.mono B2.out.size))
      clear hB
      go_wp2_with fail
      refine (FR.out _).mono ?_
      rintro e w3 ⟨rfl, b3⟩
      go_wp2
      go_ret2
      exact ⟨rfl, BZ.out.trans (b3.mono BZ.out.size)⟩
end Go.Proofs.YtfbdidfaeplllaaGreat

namespace Go.Proofs.YtfbdidfaeplllaaGreat
open Go.RowKit Go.Shelf
attribute [local irreducible] wpQuiet

theorem cmpV_lt_iff (ax ay bx by' : Int) : cmpV ax ay bx by' < 0 ↔ ax < bx ∨ ax = bx ∧ ay < by' := by
  unfold cmpV orI cmpI
  repeat' split
  all_goals omega





end Go.Proofs.YtfbdidfaeplllaaGreat

namespace Go.Proofs.YtfbdidfaeplllaaGreat
open Go.RowKit Go.Shelf
attribute [local irreducible] wpQuiet


end Go.Proofs.YtfbdidfaeplllaaGreat

namespace Go.Proofs.YtfbdidfaeplllaaGreat

theorem turnP_self (a c : Pt) : turnP a a c = 0 := by unfold turnP turnV; simp
theorem turnP_swap (a b d : Pt) : turnP a d b = -turnP a b d := by
  unfold turnP turnV
  rw [Int.mul_comm (d.x - a.x), Int.mul_comm (d.y - a.y)]
  omega
theorem cmpP_self (a : Pt) : cmpP a a = 0 := by simp [cmpP, cmpV, orI, cmpI]

theorem go_distinct {l : List Pt} (hl : ∀ k, 1 ≤ k → k < l.length → cmpP (nth l 0) (nth l k) < 0)
    (hg : ∀ i, i < l.length → ∀ k, k < l.length → nth l k ≠ nth l i → nth l k ≠ nth l ((i + 1) % l.length) → 0 < turnP (nth l i) (nth l ((i + 1) % l.length)) (nth l k)) :
    ∀ (t j k : Nat), l.length - k = t → j < k → k < l.length → nth l j ≠ nth l k := by
  have h0 : ∀ k, 1 ≤ k → k < l.length → nth l 0 ≠ nth l k := fun k h1 h2 e => by
    have := hl k h1 h2
    rw [← e, cmpP_self] at this
    omega
  intro t
  induction t using Nat.strongRecOn with
  | _ t ih =>
    intro j k ht hjk hk e
    have hj : 1 ≤ j := by
      rcases Nat.eq_zero_or_pos j with h | h
      · subst h; exact absurd e (h0 k hjk hk)
      · exact h
    have hj1 : (j + 1) % l.length = j + 1 := Nat.mod_eq_of_lt (by omega)
    have n0 : nth l 0 ≠ nth l j := h0 j hj (by omega)
    have n0k : nth l 0 ≠ nth l k := h0 k (by omega) hk
    -- the corners behind both differ
    have hne : nth l (j + 1) ≠ nth l ((k + 1) % l.length) := by
      by_cases hk1 : k + 1 = l.length
      · rw [hk1, Nat.mod_self]
        exact fun h => h0 (j + 1) (by omega) (by omega) h.symm
      · rw [Nat.mod_eq_of_lt (by omega)]
        exact ih (l.length - (k + 1)) (by omega) (j + 1) (k + 1) rfl (by omega) (by omega)
    have hAB : nth l j ≠ nth l (j + 1) := fun h => by
      have := hg j (by omega) 0 (by omega) n0 (by rw [hj1, ← h]; exact n0)
      rw [hj1, ← h, turnP_self] at this
      omega
    have hAD : nth l k ≠ nth l ((k + 1) % l.length) := fun h => by
      have := hg k hk 0 (by omega) n0k (by rw [← h]; exact n0k)
      rw [← h, turnP_self] at this
      omega
    have hm : (k + 1) % l.length < l.length := Nat.mod_lt _ (by omega)
    have t1 := hg j (by omega) ((k + 1) % l.length) hm (by rw [e]; exact Ne.symm hAD) (by rw [hj1]; exact Ne.symm hne)
    have t2 := hg k hk (j + 1) (by omega) (by rw [← e]; exact Ne.symm hAB) hne
    rw [hj1] at t1
    rw [← e, turnP_swap] at t2
    omega


end Go.Proofs.YtfbdidfaeplllaaGreat

namespace Go.Proofs.YtfbdidfaeplllaaGreat
open Go.RowKit
attribute [local irreducible] wpQuiet

set_option linter.unusedSimpArgs false in
set_option maxHeartbeats 800000 in
set_option maxRecDepth 8000 in
theorem rsquare_any (a b : Pt) (w : World) (ha : placeP a = true) (hb : placeP b = true) :
    Calls Tryz.prog 17 #[.agg #[.int .i64 a.x, .int .i64 a.y], .agg #[.int .i64 b.x, .int .i64 b.y]] w fun e w' => e = .returned (.int .i64 (dsq a b)) ∧ Below w.heap.size w w' := by
  obtain ⟨⟨g0, g1, g2, g3⟩, g4, g5, g6, g7, g8⟩ := dsq_bd ha hb
  unfold dsq at *
  have z1 : IntKind.i64.wrap (a.x - b.x) = a.x - b.x := IntWalk.i64_in _ (by omega)
  have z2 : IntKind.i64.wrap (a.y - b.y) = a.y - b.y := IntWalk.i64_in _ (by omega)
  have z3 : IntKind.i64.wrap ((a.x - b.x) * (a.x - b.x)) = (a.x - b.x) * (a.x - b.x) := IntWalk.i64_in _ (by omega)
  have z4 : IntKind.i64.wrap ((a.y - b.y) * (a.y - b.y)) = (a.y - b.y) * (a.y - b.y) := IntWalk.i64_in _ (by omega)
  have z5 : IntKind.i64.wrap ((a.x - b.x) * (a.x - b.x) + (a.y - b.y) * (a.y - b.y)) = (a.x - b.x) * (a.x - b.x) + (a.y - b.y) * (a.y - b.y) := IntWalk.i64_in _ (by omega)
  clear g0 g1 g2 g3 g4 g5 g6 g7 g8 ha hb
  generalize a.x = ax at *
  generalize a.y = ay at *
  generalize b.x = bx at *
  generalize b.y = by' at *
  have B0 := Lib.hid (((Below.refl w.heap.size w).alloc (Nat.le_refl _) (.cells #[.int .i64 ax, .int .i64 ay] 31)).alloc (by simp) (.cells #[.int .i64 bx, .int .i64 by'] 31))
  go_enter Tryz.func17, Tryz.ntmps17
  go_wp2
  go_ret
  exact ⟨rfl, B0.out⟩


end Go.Proofs.YtfbdidfaeplllaaGreat
