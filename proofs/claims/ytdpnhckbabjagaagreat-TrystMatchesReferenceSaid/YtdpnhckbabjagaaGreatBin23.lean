/- package rocks: First, Hit. | Plain: what Has, Common, First and Hit say of one another. | Plain geometry: polygons that have a point in common touch; those that touch have one. No program here. | landfallref03's between and Inside. | landfallref03's least and next; landfallref04's least. (Printed by tools/mknext.py.) | Plain geometry: the disk with eight corners; the points of a hull. No program here. -/
import Derived.WalkMore
import Derived.Test.YtdpnhckbabjagaaGreatBin22
import Derived.Test.YtdpnhckbabjagaaGreatBin00
import Derived.Test.YtdpnhckbabjagaaGreatBin07
import Derived.Test.YtdpnhckbabjagaaGreatBin02
import Derived.Test.YtdpnhckbabjagaaGreatBin10
import Derived.Test.YtdpnhckbabjagaaGreatBin20
namespace Go.Proofs.YtdpnhckbabjagaaGreat
open Go.RowKit
attribute [local irreducible] wpQuiet

/-- the first of the first k rocks that touches a corridor -/
noncomputable def hitTo (c : List Pt) (ls : List (List Pt)) : Nat → Option Nat
  | 0 => none
  | k + 1 => if (hitTo c ls k).isSome = true then hitTo c ls k else if touchB c (rk ls k) = true then some k else none



end Go.Proofs.YtdpnhckbabjagaaGreat

namespace Go.Proofs.YtdpnhckbabjagaaGreat

theorem goValid_true {l : List Pt} (h : goValid l = true) : GoValid l := by simpa [goValid] using h


end Go.Proofs.YtdpnhckbabjagaaGreat

namespace Go.Proofs.YtdpnhckbabjagaaGreat



/-- a linear number on a segment -/
theorem SegH.turn {a b : Pt} {X Y W K s t : Int} (e1 : K * X = s * a.x + t * b.x) (e2 : K * Y = s * a.y + t * b.y) (e3 : K * W = s + t) (u v : Pt) : K * hturn u v X Y W = s * turnP u v a + t * turnP u v b := by
  rw [← hturn_scale, e1, e2, e3]
  unfold hturn turnP turnV; grind



/-- two sides cross -/
def CrossS (S T : Pt × Pt) : Prop := (crossB (turnP S.1 S.2 T.1) (turnP S.1 S.2 T.2) && crossB (turnP T.1 T.2 S.1) (turnP T.1 T.2 S.2)) = true
theorem CrossS.symm {S T : Pt × Pt} (h : CrossS S T) : CrossS T S := by unfold CrossS at *; rwa [Bool.and_comm]


/-- two polygons have a corner in the other one, or sides that cross -/
def Touch (l m : List Pt) : Prop := (∃ k, k < l.length ∧ inside m (nth l k) = true) ∨ (∃ k, k < m.length ∧ inside l (nth m k) = true) ∨ ∃ i j, i < l.length ∧ j < m.length ∧ CrossS (sideP l i) (sideP m j)
theorem Touch.symm {l m : List Pt} (h : Touch l m) : Touch m l := by
  rcases h with h | h | ⟨i, j, hi, hj, h⟩
  · exact .inr (.inl h)
  · exact .inl h
  · exact .inr (.inr ⟨j, i, hj, hi, h.symm⟩)
end Go.Proofs.YtdpnhckbabjagaaGreat

namespace Go.Proofs.YtdpnhckbabjagaaGreat
open Go.RowKit
attribute [local irreducible] wpQuiet

def minI (a b : Int) : Int := if b < a then b else a
def maxI (a b : Int) : Int := if a < b then b else a
def btwB (ax ay bx by' px py : Int) : Bool := decide (minI ax bx ≤ px) && decide (px ≤ maxI ax bx) && decide (minI ay by' ≤ py) && decide (py ≤ maxI ay by')
set_option linter.unusedSimpArgs false in
theorem rbtw_any (ax ay bx by' px py : Int) (w : World) :
    Calls Tryz.prog 151 #[.agg #[.int .i64 ax, .int .i64 ay], .agg #[.int .i64 bx, .int .i64 by'], .agg #[.int .i64 px, .int .i64 py]] w fun e w' => e = .returned (.bool (btwB ax ay bx by' px py)) ∧ Below w.heap.size w w' := by
  unfold btwB minI maxI
  cases d1 : decide ((if bx < ax then bx else ax) ≤ px)
  · go_enter Tryz.func151, Tryz.ntmps151
    go_wp2
    all_goals (go_ret; exact ⟨rfl, by repeat (first | exact Below.refl _ _ | assumption | apply Below.drew | refine Below.setCell ?_ (by first | omega | (simp; done) | (simp; omega)) _ | refine Below.alloc ?_ (by first | omega | (simp; done) | (simp; omega)) _ | refine Below.call (by assumption) ?_ (by first | omega | (simp; done) | (simp; omega)))⟩)
  cases d2 : decide (px ≤ (if ax < bx then bx else ax))
  · go_enter Tryz.func151, Tryz.ntmps151
    go_wp2
    all_goals (go_ret; exact ⟨rfl, by repeat (first | exact Below.refl _ _ | assumption | apply Below.drew | refine Below.setCell ?_ (by first | omega | (simp; done) | (simp; omega)) _ | refine Below.alloc ?_ (by first | omega | (simp; done) | (simp; omega)) _ | refine Below.call (by assumption) ?_ (by first | omega | (simp; done) | (simp; omega)))⟩)
  cases d3 : decide ((if by' < ay then by' else ay) ≤ py)
  · go_enter Tryz.func151, Tryz.ntmps151
    go_wp2
    all_goals (go_ret; exact ⟨rfl, by repeat (first | exact Below.refl _ _ | assumption | apply Below.drew | refine Below.setCell ?_ (by first | omega | (simp; done) | (simp; omega)) _ | refine Below.alloc ?_ (by first | omega | (simp; done) | (simp; omega)) _ | refine Below.call (by assumption) ?_ (by first | omega | (simp; done) | (simp; omega)))⟩)
  cases d4 : decide (py ≤ (if ay < by' then by' else ay))
  · go_enter Tryz.func151, Tryz.ntmps151
    go_wp2
    all_goals (go_ret; exact ⟨rfl, by repeat (first | exact Below.refl _ _ | assumption | apply Below.drew | refine Below.setCell ?_ (by first | omega | (simp; done) | (simp; omega)) _ | refine Below.alloc ?_ (by first | omega | (simp; done) | (simp; omega)) _ | refine Below.call (by assumption) ?_ (by first | omega | (simp; done) | (simp; omega)))⟩)
  · go_enter Tryz.func151, Tryz.ntmps151
    go_wp2
    all_goals (go_ret; exact ⟨rfl, by repeat (first | exact Below.refl _ _ | assumption | apply Below.drew | refine Below.setCell ?_ (by first | omega | (simp; done) | (simp; omega)) _ | refine Below.alloc ?_ (by first | omega | (simp; done) | (simp; omega)) _ | refine Below.call (by assumption) ?_ (by first | omega | (simp; done) | (simp; omega)))⟩)


end Go.Proofs.YtdpnhckbabjagaaGreat

namespace Go.Proofs.YtdpnhckbabjagaaGreat
open Go.RowKit
attribute [local irreducible] wpQuiet

theorem btwB_iff {ax ay bx by' px py : Int} : btwB ax ay bx by' px py = true ↔ Btw ⟨ax, ay⟩ ⟨bx, by'⟩ ⟨px, py⟩ := by
  unfold btwB minI maxI Btw
  simp only [Bool.and_eq_true, decide_eq_true_eq]
  constructor
  · rintro ⟨⟨⟨a, b⟩, c⟩, d⟩
    split at a <;> split at b <;> split at c <;> split at d <;> omega
  · intro h
    refine ⟨⟨⟨?_, ?_⟩, ?_⟩, ?_⟩ <;> split <;> omega
theorem cross_wd (ax ay bx by' cx cy : Int) (w : World) (a1 : -2000000 ≤ ax) (a2 : ax ≤ 2000000) (a3 : -2000000 ≤ ay) (a4 : ay ≤ 2000000)
    (b1 : -2000000 ≤ bx) (b2 : bx ≤ 2000000) (b3 : -2000000 ≤ by') (b4 : by' ≤ 2000000) (c1 : -2000000 ≤ cx) (c2 : cx ≤ 2000000) (c3 : -2000000 ≤ cy) (c4 : cy ≤ 2000000) :
    Calls Tryz.prog 63 #[.agg #[.int .i64 ax, .int .i64 ay], .agg #[.int .i64 bx, .int .i64 by'], .agg #[.int .i64 cx, .int .i64 cy]] w fun e w' => e = .returned (.int .i64 (turnV ax ay bx by' cx cy)) ∧ Below w.heap.size w w' := by
  have p := prod_bd (a := bx - ax) (b := cy - ay) (m := 4000000) (n := 4000000) (by omega) (by omega) (by omega) (by omega)
  have q := prod_bd (a := by' - ay) (b := cx - ax) (m := 4000000) (n := 4000000) (by omega) (by omega) (by omega) (by omega)
  have p' : IntKind.i64.wrap ((bx - ax) * (cy - ay)) = (bx - ax) * (cy - ay) := IntWalk.i64_in _ (by omega)
  have q' : IntKind.i64.wrap ((by' - ay) * (cx - ax)) = (by' - ay) * (cx - ax) := IntWalk.i64_in _ (by omega)
  have r' : IntKind.i64.wrap ((bx - ax) * (cy - ay) - (by' - ay) * (cx - ax)) = (bx - ax) * (cy - ay) - (by' - ay) * (cx - ax) := IntWalk.i64_in _ (by omega)
  clear p q
  unfold turnV
  go_enter Tryz.func63, Tryz.ntmps63
  go_wp2
  go_ret
  exact ⟨rfl, by repeat (first | exact Below.refl _ _ | assumption | apply Below.drew | refine Below.setCell ?_ (by first | omega | (simp; done) | (simp; omega)) _ | refine Below.alloc ?_ (by first | omega | (simp; done) | (simp; omega)) _ | refine Below.call (by assumption) ?_ (by first | omega | (simp; done) | (simp; omega)))⟩
/-- a point whose area is computed without overflow -/
def far6 (p : Pt) : Prop := -2000000 ≤ p.x ∧ p.x ≤ 2000000 ∧ -2000000 ≤ p.y ∧ p.y ≤ 2000000
theorem nextTo_far {l : List Pt} {s : Pt} (hl : ∀ k, k < l.length → far6 (nth l k)) (hs : far6 s) : ∀ k, k ≤ l.length → far6 (nextTo l s k)
  | 0, _ => hs
  | k + 1, h => by
    simp only [nextTo, wrapStep]
    split
    · exact hl k (by omega)
    · exact nextTo_far hl hs k (by omega)
theorem lessB_iff {ax ay bx by' : Int} : lessB ax ay bx by' = true ↔ LexLt ⟨ax, ay⟩ ⟨bx, by'⟩ := by
  unfold lessB LexLt
  rw [decide_eq_true_eq, cmpV_lt_iff]

/-- what a round of next sees: from, the result, to, and a point -/
def NS (n b o : Nat) (sx sy tx ty px py : Int) (w W : World) : Prop := b < n ∧ w.heap.size = n ∧ Has W n #[.int .i64 sx, .int .i64 sy] 44 ∧ Has W (n + 1) #[.int .i64 0, .int .i64 0] 44 ∧ Has W (n + 2) #[.int .i64 tx, .int .i64 ty] 44 ∧ Below n w W ∧ W.cell? ⟨b, o, none⟩ = some (.int .i64 px) ∧ W.cell? ⟨b, o + 1, none⟩ = some (.int .i64 py)
theorem NS.below {n b o : Nat} {sx sy tx ty px py : Int} {w W W' : World} (h : NS n b o sx sy tx ty px py w W) (hb : Below W.heap.size W W') : NS n b o sx sy tx ty px py w W' := by
  obtain ⟨h0, hn, h1, h2, h3, h4, h5, h6⟩ := h
  have l3 := h3.lt
  exact ⟨h0, hn, h1.below hb (by omega), h2.below hb (by omega), h3.below hb (by omega), h4.trans (hb.mono (by omega)), (hb.cell (p := ⟨b, o, none⟩) (by show b < _; omega)).trans h5, (hb.cell (p := ⟨b, o + 1, none⟩) (by show b < _; omega)).trans h6⟩


set_option linter.unusedSimpArgs false in
set_option linter.unusedVariables false in
set_option maxRecDepth 8000 in
set_option maxHeartbeats 4000000 in
theorem next_any (v : Value) (l : List Pt) (s : Pt) (w : World) (hp : PtsAt w.heap.size w v l) (hl : ∀ k, k < l.length → far6 (nth l k)) (hs : far6 s) :
    Calls Tryz.prog 138 #[v, .agg #[.int .i64 s.x, .int .i64 s.y]] w fun e w' => e = .returned (.agg #[.int .i64 (nextP l s).x, .int .i64 (nextP l s).y]) ∧ Below w.heap.size w w' := by
  obtain ⟨hll, a, cap, rfl, hc⟩ := hp
  have HC := Lib.hid hc
  have HF := Lib.hid (fun k hk => nextTo_far hl hs k hk)
  have HL := Lib.hid hl
  obtain ⟨sx, sy⟩ := s
  have bs : far6 ⟨sx, sy⟩ := hs
  have a1 := Has.new w #[.int .i64 sx, .int .i64 sy] 44
  have a2 := a1.below ((Below.refl (w.heap.size + 1) _).alloc (by simp) (.cells #[.int .i64 0, .int .i64 0] 44)) (by omega)
  have a3 := a2.below ((Below.refl (w.heap.size + 1) _).alloc (by simp) (.cells #[.int .i64 sx, .int .i64 sy] 44)) (by omega)
  have b2 := Has.new (w.alloc (.cells #[.int .i64 sx, .int .i64 sy] 44)) #[.int .i64 0, .int .i64 0] 44
  rw [World.size_alloc] at b2
  have b3 := b2.below ((Below.refl (w.heap.size + 2) _).alloc (by simp) (.cells #[.int .i64 sx, .int .i64 sy] 44)) (by omega)
  have c3 := Has.new ((w.alloc (.cells #[.int .i64 sx, .int .i64 sy] 44)).alloc (.cells #[.int .i64 0, .int .i64 0] 44)) #[.int .i64 sx, .int .i64 sy] 44
  rw [World.size_alloc, World.size_alloc] at c3
  have d3 : Below w.heap.size w (((w.alloc (.cells #[.int .i64 sx, .int .i64 sy] 44)).alloc (.cells #[.int .i64 0, .int .i64 0] 44)).alloc (.cells #[.int .i64 sx, .int .i64 sy] 44)) := (((Below.refl w.heap.size w).alloc (Nat.le_refl _) _).alloc (by simp) _).alloc (by simp; omega) _
  have HS := Lib.hid (And.intro a3 (And.intro b3 (And.intro c3 d3)))
  clear hc hl hs a1 a2 a3 b2 b3 c3 d3
  go_enter Tryz.func138, Tryz.ntmps138
  go_wp2
  go_loopw [6] (fun i wr => ∃ k : Nat, k ≤ l.length ∧ i = .int .i64 (k : Int) ∧ Has wr w.heap.size #[.int .i64 sx, .int .i64 sy] 44 ∧ Has wr (w.heap.size + 1) #[.int .i64 0, .int .i64 0] 44 ∧ Has wr (w.heap.size + 2) #[.int .i64 (nextTo l ⟨sx, sy⟩ k).x, .int .i64 (nextTo l ⟨sx, sy⟩ k).y] 44 ∧ Below w.heap.size w wr) (fun i _ => l.length - (intOf i).toNat)
  case atStart => exact ⟨0, by omega, rfl, HS.out.1, HS.out.2.1, HS.out.2.2.1, HS.out.2.2.2⟩
  case round =>
    obtain ⟨k, hk, rfl, g3, g4, g5, hB⟩ := hrel
    have hzB := hB.size
    have l5 := g5.lt
    by_cases hlt : k < l.length
    · obtain ⟨b, o, rfl, hb, hcc⟩ := HC.out.resolve_left (by intro h; rw [h] at hlt; simp at hlt)
      obtain ⟨q0, q1⟩ := hcc k hlt
      have f0 := (hB.cell (p := ⟨b, o + k * 2, none⟩) hb).trans q0
      have f1 := (hB.cell (p := ⟨b, o + k * 2 + 1, none⟩) hb).trans q1
      have bt := HF.out k hk
      have bp := HL.out k hlt
      have hst : Hid (nextTo l ⟨sx, sy⟩ (k + 1) = wrapStep ⟨sx, sy⟩ (nextTo l ⟨sx, sy⟩ k) (nth l k)) := rfl
      obtain ⟨⟨tx, ty⟩, ht⟩ : ∃ t, nextTo l ⟨sx, sy⟩ k = t := ⟨_, rfl⟩
      obtain ⟨⟨px, py⟩, hpx⟩ : ∃ t, nth l k = t := ⟨_, rfl⟩
      rw [ht] at g5 hst bt
      rw [hpx] at f0 f1 hst bp
      have HN : Hid (NS w.heap.size b (o + k * 2) sx sy tx ty px py w wr) := ⟨hb, rfl, g3, g4, g5, hB, f0, f1⟩
      clear ht hpx hcc q0 q1 g3 g4 g5 hB f0 f1
      unfold far6 at bt bp bs
      simp only at bt bp bs
      have hcr := Lib.hid (fun w1 => cross_wd sx sy tx ty px py w1 bs.1 bs.2.1 bs.2.2.1 bs.2.2.2 bt.1 bt.2.1 bt.2.2.1 bt.2.2.2 bp.1 bp.2.1 bp.2.2.1 bp.2.2.2)
      have hst2 : Hid (wrapStep ⟨sx, sy⟩ ⟨tx, ty⟩ ⟨px, py⟩ = if ((⟨tx, ty⟩ : Pt) = ⟨sx, sy⟩ ∨ turnV sx sy tx ty px py < 0 ∨ turnV sx sy tx ty px py = 0 ∧ btwB sx sy px py tx ty = true) then ⟨px, py⟩ else ⟨tx, ty⟩) := by
        show _ = _
        unfold wrapStep
        simp only [btwB_iff]
        rfl
      rw [hst2.out] at hst
      clear hst2 bs bt bp
      obtain ⟨c, hcv⟩ : ∃ c, turnV sx sy tx ty px py = c := ⟨_, rfl⟩
      rw [hcv] at hcr hst
      have hbw := Lib.hid (fun w1 => rbtw_any sx sy px py tx ty w1)
      obtain ⟨bb, hbb⟩ : ∃ bb, btwB sx sy px py tx ty = bb := ⟨_, rfl⟩
      rw [hbb] at hbw hst
      clear hbb
      have dk : decide ((k : Int) < (l.length : Int)) = true := by simp; omega
      have kl : (k : Int) < l.length := by omega
      have k0 : (0 : Int) ≤ k := by omega
      obtain ⟨_, _, g3, g4, g5, hB, f0, f1⟩ := HN.out
      have l5 := g5.lt
      have s0 := Low.fact (g3.cell (i := 0) rfl : wr.cell? ⟨w.heap.size, 0, none⟩ = some (.int .i64 sx))
      have s1 := Low.fact (g3.cell (i := 1) rfl : wr.cell? ⟨w.heap.size, 1, none⟩ = some (.int .i64 sy))
      have t0 := Low.fact (g5.cell (i := 0) rfl : wr.cell? ⟨w.heap.size + 2, 0, none⟩ = some (.int .i64 tx))
      have t1 := Low.fact (g5.cell (i := 1) rfl : wr.cell? ⟨w.heap.size + 2, 1, none⟩ = some (.int .i64 ty))
      have p0 := Low.fact f0
      have p1 := Low.fact f1
      clear g3 g4 g5 hB f0 f1
      rcases (show (tx = sx ∧ ty = sy) ∨ (tx = sx ∧ ¬ ty = sy) ∨ ¬ tx = sx by omega) with ⟨e1, e2⟩ | hne
      · obtain rfl := e1.symm
        obtain rfl := e2.symm
        rw [if_pos (.inl rfl)] at hst
        clear hcv
        go_wp2
        (refine wp_region_low (by kernel_rfl) (by kernel_rfl) ?_; (iterate 8 (apply quiet_want; (case hw => rfl); (case hval => (intro w1 hw1; have hcx := Low.cells hw1; simp only [Oper.quietAt]; go_simp; first | done | (first | (go_at_call 63; exact Low.calls hw1 (hcr.out _))) | rfl | exact ⟨rfl, rfl⟩)); simp only [Act.put, List.setIfInBounds_toArray, List.set_cons_zero, List.set_cons_succ])); refine wpQuiet_nil ?_; intro w2 hw2)
        have HN2 := Lib.hid (HN.out.below hw2.out)
        clear s0 s1 t0 t1 p0 p1 hw2 HN l5
        have HN := HN2
        clear HN2
        generalize w2 = X2 at HN ⊢
        obtain ⟨_, _, g3, g4, g5, hB, f0, f1⟩ := HN.out
        have l5 := g5.lt
        have s0 := Low.fact (g3.cell (i := 0) rfl : X2.cell? ⟨w.heap.size, 0, none⟩ = some (.int .i64 sx))
        have s1 := Low.fact (g3.cell (i := 1) rfl : X2.cell? ⟨w.heap.size, 1, none⟩ = some (.int .i64 sy))
        have t0 := Low.fact (g5.cell (i := 0) rfl : X2.cell? ⟨w.heap.size + 2, 0, none⟩ = some (.int .i64 sx))
        have t1 := Low.fact (g5.cell (i := 1) rfl : X2.cell? ⟨w.heap.size + 2, 1, none⟩ = some (.int .i64 sy))
        have p0 := Low.fact f0
        have p1 := Low.fact f1
        clear g3 g4 g5 hB f0 f1
        go_wp2
        (refine wp_region_low (by kernel_rfl) (by kernel_rfl) ?_; (iterate 4 (apply quiet_want; (case hw => rfl); (case hval => (intro w1 hw1; have hcx := Low.cells hw1; simp only [Oper.quietAt]; go_simp; first | done | (first | (go_at_call 151; exact Low.calls hw1 (hbw.out _))) | rfl | exact ⟨rfl, rfl⟩)); simp only [Act.put, List.setIfInBounds_toArray, List.set_cons_zero, List.set_cons_succ])); (iterate 2 (apply quiet_skip; (case hw => rfl); simp only [Act.put, List.setIfInBounds_toArray, List.set_cons_zero, List.set_cons_succ])); (iterate 2 (apply quiet_want; (case hw => rfl); (case hval => (intro w1 hw1; have hcx := Low.cells hw1; simp only [Oper.quietAt]; go_simp; first | done | (first | (go_at_call 151; exact Low.calls hw1 (hbw.out _))) | rfl | exact ⟨rfl, rfl⟩)); simp only [Act.put, List.setIfInBounds_toArray, List.set_cons_zero, List.set_cons_succ])); (iterate 11 (apply quiet_skip; (case hw => rfl); simp only [Act.put, List.setIfInBounds_toArray, List.set_cons_zero, List.set_cons_succ])); (iterate 1 (apply quiet_want; (case hw => rfl); (case hval => (intro w1 hw1; have hcx := Low.cells hw1; simp only [Oper.quietAt]; go_simp; first | done | (first | (go_at_call 151; exact Low.calls hw1 (hbw.out _))) | rfl | exact ⟨rfl, rfl⟩)); simp only [Act.put, List.setIfInBounds_toArray, List.set_cons_zero, List.set_cons_succ])); refine wpQuiet_nil ?_; intro w2 hw2)
        have HN3 := Lib.hid (HN.out.below hw2.out)
        clear s0 s1 t0 t1 p0 p1 hw2 HN l5
        obtain ⟨h0, hn, g3, g4, g5, hB, f0, f1⟩ := HN3.out
        have l5 := g5.lt
        have x0 : w2.cell? ⟨w.heap.size + 2, 0, none⟩ = some (.int .i64 sx) := g5.cell (i := 0) rfl
        have x1 : w2.cell? ⟨w.heap.size + 2, 1, none⟩ = some (.int .i64 sy) := g5.cell (i := 1) rfl
        have y0 := cells_free g5 0
        have y1 := cells_free g5 1
        have HZ := Lib.hid (And.intro ((g3.other ⟨w.heap.size + 2, 0, none⟩ (.int .i64 px) (by simp)).other ⟨w.heap.size + 2, 1, none⟩ (.int .i64 py) (by simp)) (And.intro ((g4.other ⟨w.heap.size + 2, 0, none⟩ (.int .i64 px) (by simp)).other ⟨w.heap.size + 2, 1, none⟩ (.int .i64 py) (by simp)) (And.intro ((g5.set 0 (.int .i64 px)).set 1 (.int .i64 py)) ((hB.setCell (p := ⟨w.heap.size + 2, 0, none⟩) (by simp) (.int .i64 px)).setCell (p := ⟨w.heap.size + 2, 1, none⟩) (by simp) (.int .i64 py)))))
        clear g3 g4 g5 hB
        go_wp2
        go_roundw
        case rel => exact ⟨k + 1, by omega, by go_num, HZ.out.1, HZ.out.2.1, by rw [hst.out]; exact HZ.out.2.2.1, HZ.out.2.2.2⟩
        case measure => simp [intOf]; omega
      · have hnp : ¬ (⟨tx, ty⟩ : Pt) = ⟨sx, sy⟩ := fun h => by simp only [Pt.mk.injEq] at h; omega
        rcases (show c < 0 ∨ c = 0 ∨ 0 < c by omega) with hc | rfl | hc

        · rw [if_pos (.inr (.inl hc))] at hst
          have d1 : decide (c < 0) = true := by simpa using hc
          clear hnp hc
          rcases hne with ⟨e1, hne⟩ | hne
          · obtain rfl := e1.symm
            clear hcv
            go_wp2
            (refine wp_region_low (by kernel_rfl) (by kernel_rfl) ?_; (iterate 8 (apply quiet_want; (case hw => rfl); (case hval => (intro w1 hw1; have hcx := Low.cells hw1; simp only [Oper.quietAt]; go_simp; first | done | (first | (go_at_call 63; exact Low.calls hw1 (hcr.out _))) | rfl | exact ⟨rfl, rfl⟩)); simp only [Act.put, List.setIfInBounds_toArray, List.set_cons_zero, List.set_cons_succ])); refine wpQuiet_nil ?_; intro w2 hw2)
            have HN2 := Lib.hid (HN.out.below hw2.out)
            clear s0 s1 t0 t1 p0 p1 hw2 HN l5
            have HN := HN2
            clear HN2
            generalize w2 = X2 at HN ⊢
            obtain ⟨_, _, g3, g4, g5, hB, f0, f1⟩ := HN.out
            have l5 := g5.lt
            have s0 := Low.fact (g3.cell (i := 0) rfl : X2.cell? ⟨w.heap.size, 0, none⟩ = some (.int .i64 sx))
            have s1 := Low.fact (g3.cell (i := 1) rfl : X2.cell? ⟨w.heap.size, 1, none⟩ = some (.int .i64 sy))
            have t0 := Low.fact (g5.cell (i := 0) rfl : X2.cell? ⟨w.heap.size + 2, 0, none⟩ = some (.int .i64 sx))
            have t1 := Low.fact (g5.cell (i := 1) rfl : X2.cell? ⟨w.heap.size + 2, 1, none⟩ = some (.int .i64 ty))
            have p0 := Low.fact f0
            have p1 := Low.fact f1
            clear g3 g4 g5 hB f0 f1
            go_wp2
            (refine wp_region_low (by kernel_rfl) (by kernel_rfl) ?_; (iterate 8 (apply quiet_want; (case hw => rfl); (case hval => (intro w1 hw1; have hcx := Low.cells hw1; simp only [Oper.quietAt]; go_simp; first | done | (first | (go_at_call 151; exact Low.calls hw1 (hbw.out _))) | rfl | exact ⟨rfl, rfl⟩)); simp only [Act.put, List.setIfInBounds_toArray, List.set_cons_zero, List.set_cons_succ])); (iterate 11 (apply quiet_skip; (case hw => rfl); simp only [Act.put, List.setIfInBounds_toArray, List.set_cons_zero, List.set_cons_succ])); (iterate 1 (apply quiet_want; (case hw => rfl); (case hval => (intro w1 hw1; have hcx := Low.cells hw1; simp only [Oper.quietAt]; go_simp; first | done | (first | (go_at_call 151; exact Low.calls hw1 (hbw.out _))) | rfl | exact ⟨rfl, rfl⟩)); simp only [Act.put, List.setIfInBounds_toArray, List.set_cons_zero, List.set_cons_succ])); refine wpQuiet_nil ?_; intro w2 hw2)
            have HN3 := Lib.hid (HN.out.below hw2.out)
            clear s0 s1 t0 t1 p0 p1 hw2 HN l5
            obtain ⟨h0, hn, g3, g4, g5, hB, f0, f1⟩ := HN3.out
            have l5 := g5.lt
            have x0 : w2.cell? ⟨w.heap.size + 2, 0, none⟩ = some (.int .i64 sx) := g5.cell (i := 0) rfl
            have x1 : w2.cell? ⟨w.heap.size + 2, 1, none⟩ = some (.int .i64 ty) := g5.cell (i := 1) rfl
            have y0 := cells_free g5 0
            have y1 := cells_free g5 1
            have HZ := Lib.hid (And.intro ((g3.other ⟨w.heap.size + 2, 0, none⟩ (.int .i64 px) (by simp)).other ⟨w.heap.size + 2, 1, none⟩ (.int .i64 py) (by simp)) (And.intro ((g4.other ⟨w.heap.size + 2, 0, none⟩ (.int .i64 px) (by simp)).other ⟨w.heap.size + 2, 1, none⟩ (.int .i64 py) (by simp)) (And.intro ((g5.set 0 (.int .i64 px)).set 1 (.int .i64 py)) ((hB.setCell (p := ⟨w.heap.size + 2, 0, none⟩) (by simp) (.int .i64 px)).setCell (p := ⟨w.heap.size + 2, 1, none⟩) (by simp) (.int .i64 py)))))
            clear g3 g4 g5 hB
            go_wp2
            go_roundw
            case rel => exact ⟨k + 1, by omega, by go_num, HZ.out.1, HZ.out.2.1, by rw [hst.out]; exact HZ.out.2.2.1, HZ.out.2.2.2⟩
            case measure => simp [intOf]; omega
          · clear hcv
            go_wp2
            (refine wp_region_low (by kernel_rfl) (by kernel_rfl) ?_; (iterate 8 (apply quiet_want; (case hw => rfl); (case hval => (intro w1 hw1; have hcx := Low.cells hw1; simp only [Oper.quietAt]; go_simp; first | done | (first | (go_at_call 63; exact Low.calls hw1 (hcr.out _))) | rfl | exact ⟨rfl, rfl⟩)); simp only [Act.put, List.setIfInBounds_toArray, List.set_cons_zero, List.set_cons_succ])); refine wpQuiet_nil ?_; intro w2 hw2)
            have HN2 := Lib.hid (HN.out.below hw2.out)
            clear s0 s1 t0 t1 p0 p1 hw2 HN l5
            have HN := HN2
            clear HN2
            generalize w2 = X2 at HN ⊢
            obtain ⟨_, _, g3, g4, g5, hB, f0, f1⟩ := HN.out
            have l5 := g5.lt
            have s0 := Low.fact (g3.cell (i := 0) rfl : X2.cell? ⟨w.heap.size, 0, none⟩ = some (.int .i64 sx))
            have s1 := Low.fact (g3.cell (i := 1) rfl : X2.cell? ⟨w.heap.size, 1, none⟩ = some (.int .i64 sy))
            have t0 := Low.fact (g5.cell (i := 0) rfl : X2.cell? ⟨w.heap.size + 2, 0, none⟩ = some (.int .i64 tx))
            have t1 := Low.fact (g5.cell (i := 1) rfl : X2.cell? ⟨w.heap.size + 2, 1, none⟩ = some (.int .i64 ty))
            have p0 := Low.fact f0
            have p1 := Low.fact f1
            clear g3 g4 g5 hB f0 f1
            go_wp2
            (refine wp_region_low (by kernel_rfl) (by kernel_rfl) ?_; (iterate 8 (apply quiet_want; (case hw => rfl); (case hval => (intro w1 hw1; have hcx := Low.cells hw1; simp only [Oper.quietAt]; go_simp; first | done | (first | (go_at_call 151; exact Low.calls hw1 (hbw.out _))) | rfl | exact ⟨rfl, rfl⟩)); simp only [Act.put, List.setIfInBounds_toArray, List.set_cons_zero, List.set_cons_succ])); (iterate 11 (apply quiet_skip; (case hw => rfl); simp only [Act.put, List.setIfInBounds_toArray, List.set_cons_zero, List.set_cons_succ])); (iterate 1 (apply quiet_want; (case hw => rfl); (case hval => (intro w1 hw1; have hcx := Low.cells hw1; simp only [Oper.quietAt]; go_simp; first | done | (first | (go_at_call 151; exact Low.calls hw1 (hbw.out _))) | rfl | exact ⟨rfl, rfl⟩)); simp only [Act.put, List.setIfInBounds_toArray, List.set_cons_zero, List.set_cons_succ])); refine wpQuiet_nil ?_; intro w2 hw2)
            have HN3 := Lib.hid (HN.out.below hw2.out)
            clear s0 s1 t0 t1 p0 p1 hw2 HN l5
            obtain ⟨h0, hn, g3, g4, g5, hB, f0, f1⟩ := HN3.out
            have l5 := g5.lt
            have x0 : w2.cell? ⟨w.heap.size + 2, 0, none⟩ = some (.int .i64 tx) := g5.cell (i := 0) rfl
            have x1 : w2.cell? ⟨w.heap.size + 2, 1, none⟩ = some (.int .i64 ty) := g5.cell (i := 1) rfl
            have y0 := cells_free g5 0
            have y1 := cells_free g5 1
            have HZ := Lib.hid (And.intro ((g3.other ⟨w.heap.size + 2, 0, none⟩ (.int .i64 px) (by simp)).other ⟨w.heap.size + 2, 1, none⟩ (.int .i64 py) (by simp)) (And.intro ((g4.other ⟨w.heap.size + 2, 0, none⟩ (.int .i64 px) (by simp)).other ⟨w.heap.size + 2, 1, none⟩ (.int .i64 py) (by simp)) (And.intro ((g5.set 0 (.int .i64 px)).set 1 (.int .i64 py)) ((hB.setCell (p := ⟨w.heap.size + 2, 0, none⟩) (by simp) (.int .i64 px)).setCell (p := ⟨w.heap.size + 2, 1, none⟩) (by simp) (.int .i64 py)))))
            clear g3 g4 g5 hB
            go_wp2
            go_roundw
            case rel => exact ⟨k + 1, by omega, by go_num, HZ.out.1, HZ.out.2.1, by rw [hst.out]; exact HZ.out.2.2.1, HZ.out.2.2.2⟩
            case measure => simp [intOf]; omega
        · have d1 : decide ((0 : Int) < 0) = false := rfl
          cases bb
          · rw [if_neg (by rintro (h | h | ⟨_, h⟩); exact hnp h; omega; cases h)] at hst
            clear hnp
            rcases hne with ⟨e1, hne⟩ | hne
            · obtain rfl := e1.symm
              clear hcv
              go_wp2
              (refine wp_region_low (by kernel_rfl) (by kernel_rfl) ?_; (iterate 8 (apply quiet_want; (case hw => rfl); (case hval => (intro w1 hw1; have hcx := Low.cells hw1; simp only [Oper.quietAt]; go_simp; first | done | (first | (go_at_call 63; exact Low.calls hw1 (hcr.out _))) | rfl | exact ⟨rfl, rfl⟩)); simp only [Act.put, List.setIfInBounds_toArray, List.set_cons_zero, List.set_cons_succ])); refine wpQuiet_nil ?_; intro w2 hw2)
              have HN2 := Lib.hid (HN.out.below hw2.out)
              clear s0 s1 t0 t1 p0 p1 hw2 HN l5
              have HN := HN2
              clear HN2
              generalize w2 = X2 at HN ⊢
              obtain ⟨_, _, g3, g4, g5, hB, f0, f1⟩ := HN.out
              have l5 := g5.lt
              have s0 := Low.fact (g3.cell (i := 0) rfl : X2.cell? ⟨w.heap.size, 0, none⟩ = some (.int .i64 sx))
              have s1 := Low.fact (g3.cell (i := 1) rfl : X2.cell? ⟨w.heap.size, 1, none⟩ = some (.int .i64 sy))
              have t0 := Low.fact (g5.cell (i := 0) rfl : X2.cell? ⟨w.heap.size + 2, 0, none⟩ = some (.int .i64 sx))
              have t1 := Low.fact (g5.cell (i := 1) rfl : X2.cell? ⟨w.heap.size + 2, 1, none⟩ = some (.int .i64 ty))
              have p0 := Low.fact f0
              have p1 := Low.fact f1
              clear g3 g4 g5 hB f0 f1
              go_wp2
              (refine wp_region_low (by kernel_rfl) (by kernel_rfl) ?_; (iterate 20 (apply quiet_want; (case hw => rfl); (case hval => (intro w1 hw1; have hcx := Low.cells hw1; simp only [Oper.quietAt]; go_simp; first | done | (first | (go_at_call 151; exact Low.calls hw1 (hbw.out _))) | rfl | exact ⟨rfl, rfl⟩)); simp only [Act.put, List.setIfInBounds_toArray, List.set_cons_zero, List.set_cons_succ])); refine wpQuiet_nil ?_; intro w2 hw2)
              have HN3 := Lib.hid (HN.out.below hw2.out)
              clear s0 s1 t0 t1 p0 p1 hw2 HN l5
              obtain ⟨h0, hn, g3, g4, g5, hB, f0, f1⟩ := HN3.out
              have HZ := Lib.hid (And.intro g3 (And.intro g4 (And.intro g5 hB)))
              clear g3 g4 g5 hB f0 f1
              go_wp2
              go_roundw
              case rel => exact ⟨k + 1, by omega, by go_num, HZ.out.1, HZ.out.2.1, by rw [hst.out]; exact HZ.out.2.2.1, HZ.out.2.2.2⟩
              case measure => simp [intOf]; omega
            · clear hcv
              go_wp2
              (refine wp_region_low (by kernel_rfl) (by kernel_rfl) ?_; (iterate 8 (apply quiet_want; (case hw => rfl); (case hval => (intro w1 hw1; have hcx := Low.cells hw1; simp only [Oper.quietAt]; go_simp; first | done | (first | (go_at_call 63; exact Low.calls hw1 (hcr.out _))) | rfl | exact ⟨rfl, rfl⟩)); simp only [Act.put, List.setIfInBounds_toArray, List.set_cons_zero, List.set_cons_succ])); refine wpQuiet_nil ?_; intro w2 hw2)
              have HN2 := Lib.hid (HN.out.below hw2.out)
              clear s0 s1 t0 t1 p0 p1 hw2 HN l5
              have HN := HN2
              clear HN2
              generalize w2 = X2 at HN ⊢
              obtain ⟨_, _, g3, g4, g5, hB, f0, f1⟩ := HN.out
              have l5 := g5.lt
              have s0 := Low.fact (g3.cell (i := 0) rfl : X2.cell? ⟨w.heap.size, 0, none⟩ = some (.int .i64 sx))
              have s1 := Low.fact (g3.cell (i := 1) rfl : X2.cell? ⟨w.heap.size, 1, none⟩ = some (.int .i64 sy))
              have t0 := Low.fact (g5.cell (i := 0) rfl : X2.cell? ⟨w.heap.size + 2, 0, none⟩ = some (.int .i64 tx))
              have t1 := Low.fact (g5.cell (i := 1) rfl : X2.cell? ⟨w.heap.size + 2, 1, none⟩ = some (.int .i64 ty))
              have p0 := Low.fact f0
              have p1 := Low.fact f1
              clear g3 g4 g5 hB f0 f1
              go_wp2
              (refine wp_region_low (by kernel_rfl) (by kernel_rfl) ?_; (iterate 20 (apply quiet_want; (case hw => rfl); (case hval => (intro w1 hw1; have hcx := Low.cells hw1; simp only [Oper.quietAt]; go_simp; first | done | (first | (go_at_call 151; exact Low.calls hw1 (hbw.out _))) | rfl | exact ⟨rfl, rfl⟩)); simp only [Act.put, List.setIfInBounds_toArray, List.set_cons_zero, List.set_cons_succ])); refine wpQuiet_nil ?_; intro w2 hw2)
              have HN3 := Lib.hid (HN.out.below hw2.out)
              clear s0 s1 t0 t1 p0 p1 hw2 HN l5
              obtain ⟨h0, hn, g3, g4, g5, hB, f0, f1⟩ := HN3.out
              have HZ := Lib.hid (And.intro g3 (And.intro g4 (And.intro g5 hB)))
              clear g3 g4 g5 hB f0 f1
              go_wp2
              go_roundw
              case rel => exact ⟨k + 1, by omega, by go_num, HZ.out.1, HZ.out.2.1, by rw [hst.out]; exact HZ.out.2.2.1, HZ.out.2.2.2⟩
              case measure => simp [intOf]; omega
          · rw [if_pos (.inr (.inr ⟨rfl, rfl⟩))] at hst
            clear hnp
            rcases hne with ⟨e1, hne⟩ | hne
            · obtain rfl := e1.symm
              clear hcv
              go_wp2
              (refine wp_region_low (by kernel_rfl) (by kernel_rfl) ?_; (iterate 8 (apply quiet_want; (case hw => rfl); (case hval => (intro w1 hw1; have hcx := Low.cells hw1; simp only [Oper.quietAt]; go_simp; first | done | (first | (go_at_call 63; exact Low.calls hw1 (hcr.out _))) | rfl | exact ⟨rfl, rfl⟩)); simp only [Act.put, List.setIfInBounds_toArray, List.set_cons_zero, List.set_cons_succ])); refine wpQuiet_nil ?_; intro w2 hw2)
              have HN2 := Lib.hid (HN.out.below hw2.out)
              clear s0 s1 t0 t1 p0 p1 hw2 HN l5
              have HN := HN2
              clear HN2
              generalize w2 = X2 at HN ⊢
              obtain ⟨_, _, g3, g4, g5, hB, f0, f1⟩ := HN.out
              have l5 := g5.lt
              have s0 := Low.fact (g3.cell (i := 0) rfl : X2.cell? ⟨w.heap.size, 0, none⟩ = some (.int .i64 sx))
              have s1 := Low.fact (g3.cell (i := 1) rfl : X2.cell? ⟨w.heap.size, 1, none⟩ = some (.int .i64 sy))
              have t0 := Low.fact (g5.cell (i := 0) rfl : X2.cell? ⟨w.heap.size + 2, 0, none⟩ = some (.int .i64 sx))
              have t1 := Low.fact (g5.cell (i := 1) rfl : X2.cell? ⟨w.heap.size + 2, 1, none⟩ = some (.int .i64 ty))
              have p0 := Low.fact f0
              have p1 := Low.fact f1
              clear g3 g4 g5 hB f0 f1
              go_wp2
              (refine wp_region_low (by kernel_rfl) (by kernel_rfl) ?_; (iterate 20 (apply quiet_want; (case hw => rfl); (case hval => (intro w1 hw1; have hcx := Low.cells hw1; simp only [Oper.quietAt]; go_simp; first | done | (first | (go_at_call 151; exact Low.calls hw1 (hbw.out _))) | rfl | exact ⟨rfl, rfl⟩)); simp only [Act.put, List.setIfInBounds_toArray, List.set_cons_zero, List.set_cons_succ])); refine wpQuiet_nil ?_; intro w2 hw2)
              have HN3 := Lib.hid (HN.out.below hw2.out)
              clear s0 s1 t0 t1 p0 p1 hw2 HN l5
              obtain ⟨h0, hn, g3, g4, g5, hB, f0, f1⟩ := HN3.out
              have l5 := g5.lt
              have x0 : w2.cell? ⟨w.heap.size + 2, 0, none⟩ = some (.int .i64 sx) := g5.cell (i := 0) rfl
              have x1 : w2.cell? ⟨w.heap.size + 2, 1, none⟩ = some (.int .i64 ty) := g5.cell (i := 1) rfl
              have y0 := cells_free g5 0
              have y1 := cells_free g5 1
              have HZ := Lib.hid (And.intro ((g3.other ⟨w.heap.size + 2, 0, none⟩ (.int .i64 px) (by simp)).other ⟨w.heap.size + 2, 1, none⟩ (.int .i64 py) (by simp)) (And.intro ((g4.other ⟨w.heap.size + 2, 0, none⟩ (.int .i64 px) (by simp)).other ⟨w.heap.size + 2, 1, none⟩ (.int .i64 py) (by simp)) (And.intro ((g5.set 0 (.int .i64 px)).set 1 (.int .i64 py)) ((hB.setCell (p := ⟨w.heap.size + 2, 0, none⟩) (by simp) (.int .i64 px)).setCell (p := ⟨w.heap.size + 2, 1, none⟩) (by simp) (.int .i64 py)))))
              clear g3 g4 g5 hB
              go_wp2
              go_roundw
              case rel => exact ⟨k + 1, by omega, by go_num, HZ.out.1, HZ.out.2.1, by rw [hst.out]; exact HZ.out.2.2.1, HZ.out.2.2.2⟩
              case measure => simp [intOf]; omega
            · clear hcv
              go_wp2
              (refine wp_region_low (by kernel_rfl) (by kernel_rfl) ?_; (iterate 8 (apply quiet_want; (case hw => rfl); (case hval => (intro w1 hw1; have hcx := Low.cells hw1; simp only [Oper.quietAt]; go_simp; first | done | (first | (go_at_call 63; exact Low.calls hw1 (hcr.out _))) | rfl | exact ⟨rfl, rfl⟩)); simp only [Act.put, List.setIfInBounds_toArray, List.set_cons_zero, List.set_cons_succ])); refine wpQuiet_nil ?_; intro w2 hw2)
              have HN2 := Lib.hid (HN.out.below hw2.out)
              clear s0 s1 t0 t1 p0 p1 hw2 HN l5
              have HN := HN2
              clear HN2
              generalize w2 = X2 at HN ⊢
              obtain ⟨_, _, g3, g4, g5, hB, f0, f1⟩ := HN.out
              have l5 := g5.lt
              have s0 := Low.fact (g3.cell (i := 0) rfl : X2.cell? ⟨w.heap.size, 0, none⟩ = some (.int .i64 sx))
              have s1 := Low.fact (g3.cell (i := 1) rfl : X2.cell? ⟨w.heap.size, 1, none⟩ = some (.int .i64 sy))
              have t0 := Low.fact (g5.cell (i := 0) rfl : X2.cell? ⟨w.heap.size + 2, 0, none⟩ = some (.int .i64 tx))
              have t1 := Low.fact (g5.cell (i := 1) rfl : X2.cell? ⟨w.heap.size + 2, 1, none⟩ = some (.int .i64 ty))
              have p0 := Low.fact f0
              have p1 := Low.fact f1
              clear g3 g4 g5 hB f0 f1
              go_wp2
              (refine wp_region_low (by kernel_rfl) (by kernel_rfl) ?_; (iterate 20 (apply quiet_want; (case hw => rfl); (case hval => (intro w1 hw1; have hcx := Low.cells hw1; simp only [Oper.quietAt]; go_simp; first | done | (first | (go_at_call 151; exact Low.calls hw1 (hbw.out _))) | rfl | exact ⟨rfl, rfl⟩)); simp only [Act.put, List.setIfInBounds_toArray, List.set_cons_zero, List.set_cons_succ])); refine wpQuiet_nil ?_; intro w2 hw2)
              have HN3 := Lib.hid (HN.out.below hw2.out)
              clear s0 s1 t0 t1 p0 p1 hw2 HN l5
              obtain ⟨h0, hn, g3, g4, g5, hB, f0, f1⟩ := HN3.out
              have l5 := g5.lt
              have x0 : w2.cell? ⟨w.heap.size + 2, 0, none⟩ = some (.int .i64 tx) := g5.cell (i := 0) rfl
              have x1 : w2.cell? ⟨w.heap.size + 2, 1, none⟩ = some (.int .i64 ty) := g5.cell (i := 1) rfl
              have y0 := cells_free g5 0
              have y1 := cells_free g5 1
              have HZ := Lib.hid (And.intro ((g3.other ⟨w.heap.size + 2, 0, none⟩ (.int .i64 px) (by simp)).other ⟨w.heap.size + 2, 1, none⟩ (.int .i64 py) (by simp)) (And.intro ((g4.other ⟨w.heap.size + 2, 0, none⟩ (.int .i64 px) (by simp)).other ⟨w.heap.size + 2, 1, none⟩ (.int .i64 py) (by simp)) (And.intro ((g5.set 0 (.int .i64 px)).set 1 (.int .i64 py)) ((hB.setCell (p := ⟨w.heap.size + 2, 0, none⟩) (by simp) (.int .i64 px)).setCell (p := ⟨w.heap.size + 2, 1, none⟩) (by simp) (.int .i64 py)))))
              clear g3 g4 g5 hB
              go_wp2
              go_roundw
              case rel => exact ⟨k + 1, by omega, by go_num, HZ.out.1, HZ.out.2.1, by rw [hst.out]; exact HZ.out.2.2.1, HZ.out.2.2.2⟩
              case measure => simp [intOf]; omega
        · rw [if_neg (by rintro (h | h | ⟨h, _⟩); exact hnp h; omega; omega)] at hst
          have d1 : decide (c < 0) = false := by simp; omega
          have d2 : (c == 0) = false := by rw [beq_eq_false_iff_ne]; omega
          have d3 : ¬ c = 0 := by omega
          clear hnp hc
          rcases hne with ⟨e1, hne⟩ | hne
          · obtain rfl := e1.symm
            clear hcv
            go_wp2
            (refine wp_region_low (by kernel_rfl) (by kernel_rfl) ?_; (iterate 8 (apply quiet_want; (case hw => rfl); (case hval => (intro w1 hw1; have hcx := Low.cells hw1; simp only [Oper.quietAt]; go_simp; first | done | (first | (go_at_call 63; exact Low.calls hw1 (hcr.out _))) | rfl | exact ⟨rfl, rfl⟩)); simp only [Act.put, List.setIfInBounds_toArray, List.set_cons_zero, List.set_cons_succ])); refine wpQuiet_nil ?_; intro w2 hw2)
            have HN2 := Lib.hid (HN.out.below hw2.out)
            clear s0 s1 t0 t1 p0 p1 hw2 HN l5
            have HN := HN2
            clear HN2
            generalize w2 = X2 at HN ⊢
            obtain ⟨_, _, g3, g4, g5, hB, f0, f1⟩ := HN.out
            have l5 := g5.lt
            have s0 := Low.fact (g3.cell (i := 0) rfl : X2.cell? ⟨w.heap.size, 0, none⟩ = some (.int .i64 sx))
            have s1 := Low.fact (g3.cell (i := 1) rfl : X2.cell? ⟨w.heap.size, 1, none⟩ = some (.int .i64 sy))
            have t0 := Low.fact (g5.cell (i := 0) rfl : X2.cell? ⟨w.heap.size + 2, 0, none⟩ = some (.int .i64 sx))
            have t1 := Low.fact (g5.cell (i := 1) rfl : X2.cell? ⟨w.heap.size + 2, 1, none⟩ = some (.int .i64 ty))
            have p0 := Low.fact f0
            have p1 := Low.fact f1
            clear g3 g4 g5 hB f0 f1
            go_wp2
            (refine wp_region_low (by kernel_rfl) (by kernel_rfl) ?_; (iterate 11 (apply quiet_want; (case hw => rfl); (case hval => (intro w1 hw1; have hcx := Low.cells hw1; simp only [Oper.quietAt]; go_simp; first | done | (first | (go_at_call 151; exact Low.calls hw1 (hbw.out _))) | rfl | exact ⟨rfl, rfl⟩)); simp only [Act.put, List.setIfInBounds_toArray, List.set_cons_zero, List.set_cons_succ])); (iterate 7 (apply quiet_skip; (case hw => rfl); simp only [Act.put, List.setIfInBounds_toArray, List.set_cons_zero, List.set_cons_succ])); (iterate 2 (apply quiet_want; (case hw => rfl); (case hval => (intro w1 hw1; have hcx := Low.cells hw1; simp only [Oper.quietAt]; go_simp; first | done | (first | (go_at_call 151; exact Low.calls hw1 (hbw.out _))) | rfl | exact ⟨rfl, rfl⟩)); simp only [Act.put, List.setIfInBounds_toArray, List.set_cons_zero, List.set_cons_succ])); refine wpQuiet_nil ?_; intro w2 hw2)
            have HN3 := Lib.hid (HN.out.below hw2.out)
            clear s0 s1 t0 t1 p0 p1 hw2 HN l5
            obtain ⟨h0, hn, g3, g4, g5, hB, f0, f1⟩ := HN3.out
            have HZ := Lib.hid (And.intro g3 (And.intro g4 (And.intro g5 hB)))
            clear g3 g4 g5 hB f0 f1
            go_wp2
            go_roundw
            case rel => exact ⟨k + 1, by omega, by go_num, HZ.out.1, HZ.out.2.1, by rw [hst.out]; exact HZ.out.2.2.1, HZ.out.2.2.2⟩
            case measure => simp [intOf]; omega
          · clear hcv
            go_wp2
            (refine wp_region_low (by kernel_rfl) (by kernel_rfl) ?_; (iterate 8 (apply quiet_want; (case hw => rfl); (case hval => (intro w1 hw1; have hcx := Low.cells hw1; simp only [Oper.quietAt]; go_simp; first | done | (first | (go_at_call 63; exact Low.calls hw1 (hcr.out _))) | rfl | exact ⟨rfl, rfl⟩)); simp only [Act.put, List.setIfInBounds_toArray, List.set_cons_zero, List.set_cons_succ])); refine wpQuiet_nil ?_; intro w2 hw2)
            have HN2 := Lib.hid (HN.out.below hw2.out)
            clear s0 s1 t0 t1 p0 p1 hw2 HN l5
            have HN := HN2
            clear HN2
            generalize w2 = X2 at HN ⊢
            obtain ⟨_, _, g3, g4, g5, hB, f0, f1⟩ := HN.out
            have l5 := g5.lt
            have s0 := Low.fact (g3.cell (i := 0) rfl : X2.cell? ⟨w.heap.size, 0, none⟩ = some (.int .i64 sx))
            have s1 := Low.fact (g3.cell (i := 1) rfl : X2.cell? ⟨w.heap.size, 1, none⟩ = some (.int .i64 sy))
            have t0 := Low.fact (g5.cell (i := 0) rfl : X2.cell? ⟨w.heap.size + 2, 0, none⟩ = some (.int .i64 tx))
            have t1 := Low.fact (g5.cell (i := 1) rfl : X2.cell? ⟨w.heap.size + 2, 1, none⟩ = some (.int .i64 ty))
            have p0 := Low.fact f0
            have p1 := Low.fact f1
            clear g3 g4 g5 hB f0 f1
            go_wp2
            (refine wp_region_low (by kernel_rfl) (by kernel_rfl) ?_; (iterate 11 (apply quiet_want; (case hw => rfl); (case hval => (intro w1 hw1; have hcx := Low.cells hw1; simp only [Oper.quietAt]; go_simp; first | done | (first | (go_at_call 151; exact Low.calls hw1 (hbw.out _))) | rfl | exact ⟨rfl, rfl⟩)); simp only [Act.put, List.setIfInBounds_toArray, List.set_cons_zero, List.set_cons_succ])); (iterate 7 (apply quiet_skip; (case hw => rfl); simp only [Act.put, List.setIfInBounds_toArray, List.set_cons_zero, List.set_cons_succ])); (iterate 2 (apply quiet_want; (case hw => rfl); (case hval => (intro w1 hw1; have hcx := Low.cells hw1; simp only [Oper.quietAt]; go_simp; first | done | (first | (go_at_call 151; exact Low.calls hw1 (hbw.out _))) | rfl | exact ⟨rfl, rfl⟩)); simp only [Act.put, List.setIfInBounds_toArray, List.set_cons_zero, List.set_cons_succ])); refine wpQuiet_nil ?_; intro w2 hw2)
            have HN3 := Lib.hid (HN.out.below hw2.out)
            clear s0 s1 t0 t1 p0 p1 hw2 HN l5
            obtain ⟨h0, hn, g3, g4, g5, hB, f0, f1⟩ := HN3.out
            have HZ := Lib.hid (And.intro g3 (And.intro g4 (And.intro g5 hB)))
            clear g3 g4 g5 hB f0 f1
            go_wp2
            go_roundw
            case rel => exact ⟨k + 1, by omega, by go_num, HZ.out.1, HZ.out.2.1, by rw [hst.out]; exact HZ.out.2.2.1, HZ.out.2.2.2⟩
            case measure => simp [intOf]; omega
    · obtain rfl : k = l.length := by omega
      have dk : decide ((l.length : Int) < (l.length : Int)) = false := by simp
      obtain ⟨mx, hmx⟩ : ∃ mx, (nextTo l ⟨sx, sy⟩ l.length).x = mx := ⟨_, rfl⟩
      obtain ⟨my, hmy⟩ : ∃ my, (nextTo l ⟨sx, sy⟩ l.length).y = my := ⟨_, rfl⟩
      rw [hmx, hmy] at g5
      have HM := Lib.hid (And.intro hmx hmy)
      clear hmx hmy
      have m0 : wr.cell? ⟨w.heap.size + 2, 0, none⟩ = some (.int .i64 mx) := g5.cell (i := 0) rfl
      have m1 : wr.cell? ⟨w.heap.size + 2, 1, none⟩ = some (.int .i64 my) := g5.cell (i := 1) rfl
      have x0 : wr.cell? ⟨w.heap.size + 1, 0, none⟩ = some (.int .i64 0) := g4.cell (i := 0) rfl
      have x1 : wr.cell? ⟨w.heap.size + 1, 1, none⟩ = some (.int .i64 0) := g4.cell (i := 1) rfl
      have y0 := cells_free g4 0
      have y1 := cells_free g4 1
      have HZ := (g4.set 0 (.int .i64 mx)).set 1 (.int .i64 my)
      have z0 : ((wr.setCell ⟨w.heap.size + 1, 0, none⟩ (.int .i64 mx)).setCell ⟨w.heap.size + 1, 1, none⟩ (.int .i64 my)).cell? ⟨w.heap.size + 1, 0, none⟩ = some (.int .i64 mx) := HZ.cell (i := 0) rfl
      have z1 : ((wr.setCell ⟨w.heap.size + 1, 0, none⟩ (.int .i64 mx)).setCell ⟨w.heap.size + 1, 1, none⟩ (.int .i64 my)).cell? ⟨w.heap.size + 1, 1, none⟩ = some (.int .i64 my) := HZ.cell (i := 1) rfl
      have BB := Lib.hid ((hB.setCell (p := ⟨w.heap.size + 1, 0, none⟩) (by simp) (.int .i64 mx)).setCell (p := ⟨w.heap.size + 1, 1, none⟩) (by simp) (.int .i64 my))
      clear HZ g3 g4 g5 hB
      go_wp2
      exact bodyPost_ret (v := .agg #[.int .i64 mx, .int .i64 my]) (by simp [results, Tryz.f138, go_sem, z0, z1]) rfl ⟨by unfold nextP; rw [HM.out.1, HM.out.2], BB.out⟩

set_option linter.unusedSimpArgs false in
set_option linter.unusedVariables false in
set_option maxRecDepth 4000 in
set_option maxHeartbeats 1600000 in
theorem least3_any (v : Value) (l : List Pt) (w : World) (hp : PtsAt w.heap.size w v l) (h1 : 0 < l.length) :
    Calls Tryz.prog 137 #[v] w fun e w' => e = .returned (.agg #[.int .i64 (leastP l).x, .int .i64 (leastP l).y]) ∧ Below w.heap.size w w' := by
  obtain ⟨hll, a, cap, rfl, hc⟩ := hp
  obtain ⟨b, o, rfl, hb, hc⟩ := hc.resolve_left (by intro h; rw [h] at h1; simp at h1)
  obtain ⟨q0, q1⟩ := hc 0 h1
  rw [Nat.zero_mul, Nat.add_zero] at q0 q1
  have hA := (Below.refl w.heap.size w).alloc (Nat.le_refl _) (.cells #[.int .i64 0, .int .i64 0] 44)
  have e0 := (hA.cell (p := ⟨b, o, none⟩) hb).trans q0
  have e1 := (hA.cell (p := ⟨b, o + 1, none⟩) hb).trans q1
  have HC := Lib.hid hc
  have i0 : (0 : Int) < l.length := by omega
  have h4 := (Has.new w #[.int .i64 0, .int .i64 0] 44).below ((Below.refl (w.heap.size + 1) _).alloc (by simp) (.cells #[.int .i64 (nth l 0).x, .int .i64 (nth l 0).y] 44)) (by omega)
  have h5 := Has.new (w.alloc (.cells #[.int .i64 0, .int .i64 0] 44)) #[.int .i64 (nth l 0).x, .int .i64 (nth l 0).y] 44
  rw [World.size_alloc] at h5
  have hB := hA.alloc hA.size (.cells #[.int .i64 (nth l 0).x, .int .i64 (nth l 0).y] 44)
  have HS := Lib.hid (And.intro h4 (And.intro h5 hB))
  clear hc q0 q1 h4 h5 hB hA
  go_enter Tryz.func137, Tryz.ntmps137
  go_wp2
  go_loopw [4] (fun i wr => ∃ k : Nat, k < l.length ∧ i = .int .i64 ((k : Int) + 1) ∧ Has wr w.heap.size #[.int .i64 0, .int .i64 0] 44 ∧ Has wr (w.heap.size + 1) #[.int .i64 (leastTo l (k + 1)).x, .int .i64 (leastTo l (k + 1)).y] 44 ∧ Below w.heap.size w wr) (fun i _ => l.length + 1 - (intOf i).toNat)
  case atStart => exact ⟨0, h1, rfl, HS.out.1, by rw [show leastTo l (0 + 1) = nth l 0 from ite_self _]; exact HS.out.2.1, HS.out.2.2⟩
  case round =>
    obtain ⟨k, hk, rfl, g4, g5, hB⟩ := hrel
    have hzB := hB.size
    have l5 := g5.lt
    by_cases hlt : k + 1 < l.length
    · obtain ⟨q0, q1⟩ := HC.out (k + 1) hlt
      have f0 := (hB.cell (p := ⟨b, o + (k + 1) * 2, none⟩) hb).trans q0
      have f1 := (hB.cell (p := ⟨b, o + (k + 1) * 2 + 1, none⟩) hb).trans q1
      have hst : Hid (leastTo l (k + 1 + 1) = if LexLt (nth l (k + 1)) (leastTo l (k + 1)) then nth l (k + 1) else leastTo l (k + 1)) := rfl
      obtain ⟨⟨mx, my⟩, hm⟩ : ∃ t, leastTo l (k + 1) = t := ⟨_, rfl⟩
      obtain ⟨⟨px, py⟩, hpx⟩ : ∃ t, nth l (k + 1) = t := ⟨_, rfl⟩
      rw [hm] at g5 hst
      rw [hpx] at f0 f1 hst
      simp only at g5 f0 f1
      clear hm hpx q0 q1
      have dk : decide ((k : Int) + 1 < (l.length : Int)) = true := by simp; omega
      have kl : (k : Int) + 1 < l.length := by omega
      have k0 : (0 : Int) ≤ (k : Int) + 1 := by omega
      have kn : ((k : Int) + 1).toNat = k + 1 := by omega
      have HG := Lib.hid (And.intro g4 (And.intro g5 hB))
      have m0 := Low.fact (g5.cell (i := 0) rfl : wr.cell? ⟨w.heap.size + 1, 0, none⟩ = some (.int .i64 mx))
      have m1 := Low.fact (g5.cell (i := 1) rfl : wr.cell? ⟨w.heap.size + 1, 1, none⟩ = some (.int .i64 my))
      have p0 := Low.fact f0
      have p1 := Low.fact f1
      clear g4 g5 hB
      have hcm := Lib.hid (fun w1 => rless_any px py mx my w1)
      obtain ⟨bb, hbb⟩ : ∃ bb, lessB px py mx my = bb := ⟨_, rfl⟩
      have hbi := lessB_iff (ax := px) (ay := py) (bx := mx) (by' := my)
      rw [hbb] at hcm hbi
      clear hbb
      cases bb
      · rw [if_neg (fun h => by have := hbi.2 h; cases this)] at hst
        clear hbi
        go_wp2
        (refine wp_region_low (by kernel_rfl) (by kernel_rfl) ?_; (iterate 6 (apply quiet_want; (case hw => rfl); (case hval => (intro w1 hw1; have hcx := Low.cells hw1; simp only [Oper.quietAt]; go_simp; first | done | (first | (go_at_call 62; exact Low.calls hw1 (hcm.out _))) | rfl | exact ⟨rfl, rfl⟩)); simp only [Act.put, List.setIfInBounds_toArray, List.set_cons_zero, List.set_cons_succ])); refine wpQuiet_nil ?_; intro w2 hw2)
        obtain ⟨g4, g5, hB⟩ := HG.out
        have HZ := Lib.hid (And.intro (g4.below hw2.out (by omega)) (And.intro (g5.below hw2.out (by omega)) (hB.trans (hw2.out.mono (by omega)))))
        clear g4 g5 hB hw2 m0 m1 p0 p1 f0 f1
        go_wp2
        go_roundw
        case rel => exact ⟨k + 1, hlt, by go_num, HZ.out.1, by rw [hst.out]; exact HZ.out.2.1, HZ.out.2.2⟩
        case measure => simp [intOf]; omega
      · rw [if_pos (hbi.1 rfl)] at hst
        clear hbi
        go_wp2
        (refine wp_region_low (by kernel_rfl) (by kernel_rfl) ?_; (iterate 6 (apply quiet_want; (case hw => rfl); (case hval => (intro w1 hw1; have hcx := Low.cells hw1; simp only [Oper.quietAt]; go_simp; first | done | (first | (go_at_call 62; exact Low.calls hw1 (hcm.out _))) | rfl | exact ⟨rfl, rfl⟩)); simp only [Act.put, List.setIfInBounds_toArray, List.set_cons_zero, List.set_cons_succ])); refine wpQuiet_nil ?_; intro w2 hw2)
        obtain ⟨g4, g5, hB⟩ := HG.out
        have G4 := g4.below hw2.out (by omega)
        have G5 := g5.below hw2.out (by omega)
        have B2 := hB.trans (hw2.out.mono (by omega))
        have x0 : w2.cell? ⟨w.heap.size + 1, 0, none⟩ = some (.int .i64 mx) := G5.cell (i := 0) rfl
        have x1 : w2.cell? ⟨w.heap.size + 1, 1, none⟩ = some (.int .i64 my) := G5.cell (i := 1) rfl
        have y0 := cells_free G5 0
        have y1 := cells_free G5 1
        have r0 := (hw2.out.cell (p := ⟨b, o + (k + 1) * 2, none⟩) (by show b < wr.heap.size; omega)).trans f0
        have r1 := (hw2.out.cell (p := ⟨b, o + (k + 1) * 2 + 1, none⟩) (by show b < wr.heap.size; omega)).trans f1
        have HZ := Lib.hid (And.intro (((G4.other ⟨w.heap.size + 1, 0, none⟩ (.int .i64 px) (by simp)).other ⟨w.heap.size + 1, 1, none⟩ (.int .i64 py) (by simp))) (And.intro ((G5.set 0 (.int .i64 px)).set 1 (.int .i64 py)) ((B2.setCell (p := ⟨w.heap.size + 1, 0, none⟩) (by simp) (.int .i64 px)).setCell (p := ⟨w.heap.size + 1, 1, none⟩) (by simp) (.int .i64 py))))
        clear G4 G5 B2 g4 g5 hB hw2 m0 m1 p0 p1 f0 f1
        go_wp2
        go_roundw
        case rel => exact ⟨k + 1, hlt, by go_num, HZ.out.1, by rw [hst.out]; exact HZ.out.2.1, HZ.out.2.2⟩
        case measure => simp [intOf]; omega
    · obtain rfl : k = l.length - 1 := by omega
      have dk : decide (((l.length - 1 : Nat) : Int) + 1 < (l.length : Int)) = false := by simp; omega
      have hle : leastTo l (l.length - 1 + 1) = leastP l := by unfold leastP; congr 1; omega
      rw [hle] at g5
      obtain ⟨mx, hmx⟩ : ∃ mx, (leastP l).x = mx := ⟨_, rfl⟩
      obtain ⟨my, hmy⟩ : ∃ my, (leastP l).y = my := ⟨_, rfl⟩
      rw [hmx, hmy] at g5
      have HM := Lib.hid (And.intro hmx hmy)
      clear hmx hmy hle
      have m0 : wr.cell? ⟨w.heap.size + 1, 0, none⟩ = some (.int .i64 mx) := g5.cell (i := 0) rfl
      have m1 : wr.cell? ⟨w.heap.size + 1, 1, none⟩ = some (.int .i64 my) := g5.cell (i := 1) rfl
      have x0 : wr.cell? ⟨w.heap.size, 0, none⟩ = some (.int .i64 0) := g4.cell (i := 0) rfl
      have x1 : wr.cell? ⟨w.heap.size, 1, none⟩ = some (.int .i64 0) := g4.cell (i := 1) rfl
      have y0 := cells_free g4 0
      have y1 := cells_free g4 1
      have HZ := (g4.set 0 (.int .i64 mx)).set 1 (.int .i64 my)
      have z0 : ((wr.setCell ⟨w.heap.size, 0, none⟩ (.int .i64 mx)).setCell ⟨w.heap.size, 1, none⟩ (.int .i64 my)).cell? ⟨w.heap.size, 0, none⟩ = some (.int .i64 mx) := HZ.cell (i := 0) rfl
      have z1 : ((wr.setCell ⟨w.heap.size, 0, none⟩ (.int .i64 mx)).setCell ⟨w.heap.size, 1, none⟩ (.int .i64 my)).cell? ⟨w.heap.size, 1, none⟩ = some (.int .i64 my) := HZ.cell (i := 1) rfl
      have BB := Lib.hid ((hB.setCell (p := ⟨w.heap.size, 0, none⟩) (by simp) (.int .i64 mx)).setCell (p := ⟨w.heap.size, 1, none⟩) (by simp) (.int .i64 my))
      clear HZ g4 g5 hB
      go_wp2
      exact bodyPost_ret (v := .agg #[.int .i64 mx, .int .i64 my]) (by simp [results, Tryz.f137, go_sem, z0, z1]) rfl ⟨by rw [HM.out.1, HM.out.2], BB.out⟩

end Go.Proofs.YtdpnhckbabjagaaGreat

namespace Go.Proofs.YtdpnhckbabjagaaGreat

/-- the least number whose square is at least twice that of another one -/
def wideN (n : Nat) : Nat := if isqrt (2 * n * n) * isqrt (2 * n * n) = 2 * n * n then isqrt (2 * n * n) else isqrt (2 * n * n) + 1
theorem wideN_spec (n : Nat) : 2 * n * n ≤ wideN n * wideN n ∧ ∀ m, m < wideN n → m * m < 2 * n * n := by
  have h := isqrt_spec (2 * n * n)
  unfold wideN
  generalize isqrt (2 * n * n) = r at *
  generalize 2 * n * n = q at *
  split
  · refine ⟨by omega, fun m hm => ?_⟩
    have := Nat.mul_lt_mul'' hm hm
    omega
  · refine ⟨by omega, fun m hm => ?_⟩
    have := Nat.mul_le_mul (show m ≤ r by omega) (show m ≤ r by omega)
    omega
theorem wideN_le {n m : Nat} (h : 2 * n * n ≤ m * m) : wideN n ≤ m := by
  rcases Nat.lt_or_ge m (wideN n) with h' | h'
  · have := (wideN_spec n).2 m h'; omega
  · exact h'
theorem wideN_ge (n : Nat) : n ≤ wideN n := by
  rcases Nat.lt_or_ge (wideN n) n with h' | h'
  · have := (wideN_spec n).1
    have b := Nat.mul_lt_mul'' h' h'
    rw [Nat.mul_assoc] at this
    omega
  · exact h'
theorem wideN_two (n : Nat) : wideN n ≤ 2 * n := wideN_le (by
  have : 2 * n * (2 * n) = 2 * (2 * n * n) := by grind
  omega)
def octK (n : Nat) : Int := (wideN n : Int) - n
theorem octK_bd (n : Nat) : 0 ≤ octK n ∧ octK n ≤ n := by
  have := wideN_ge n
  have := wideN_two n
  unfold octK; omega

theorem hull_mem {l h : List Pt} (k : HullOf l h) {i : Nat} (hi : i < h.length) : nth h i ∈ l := by
  by_cases h0 : i = 0
  · subst h0
    by_cases hl : l = []
    · rw [k.none hl] at hi; simp at hi
    · exact (k.first hl).1
  · have := k.next (i - 1) (by omega)
    rw [show i - 1 + 1 = i by omega, Nat.mod_eq_of_lt hi] at this
    exact this.1
theorem cmp_lex {a b : Pt} : cmpP a b < 0 ↔ LexLt a b := by
  unfold cmpP LexLt cmpV orI cmpI
  repeat' split
  all_goals omega
/-- a hull of places that is not too large is a polygon -/
theorem hull_valid {l h : List Pt} (k : HullOf l h) (hl : l ≠ []) (h64 : h.length ≤ 64) (hp : ∀ x, x ∈ l → placeP x = true) : GoValid h := by
  have lex : ∀ i, 0 < i → i < h.length → LexLt (nth h 0) (nth h i) := fun i h0 hi => by
    have := (k.first hl).2 _ (hull_mem k hi)
    rcases LexLt.tri (nth h 0) (nth h i) with c | c | c
    · exact c
    · exact absurd c.symm (k.back i h0 hi)
    · exact absurd c this
  refine ⟨k.some hl, h64, fun i hi => ⟨hp _ (hull_mem k hi), fun h0 => cmp_lex.2 (lex i h0 hi)⟩, fun h3 i hi j hj n1 n2 => ?_⟩
  have a := (k.next i hi).2.2 _ (hull_mem k hj)
  unfold sideP at n1 n2 ⊢
  simp only at n1 n2 ⊢
  rcases Int.lt_or_le 0 (turnP (nth h i) (nth h ((i + 1) % h.length)) (nth h j)) with c | c
  · exact c
  · exfalso
    have z : turnP (nth h i) (nth h ((i + 1) % h.length)) (nth h j) = 0 := by omega
    have bt := a.2 z
    have mi := hull_mem k hi
    have mi' := hull_mem k (Nat.mod_lt (i + 1) (by omega) : (i + 1) % h.length < h.length)
    have nj := k.next j hj
    have bi := nj.2.2 _ mi
    have bi' := nj.2.2 _ mi'
    have ne : nth h j ≠ nth h ((j + 1) % h.length) := fun e => by
      have all := nj.2.1 e.symm
      exact n1 (all _ mi).symm
    generalize nth h i = p at *
    generalize nth h ((i + 1) % h.length) = q at *
    generalize nth h j = x at *
    generalize nth h ((j + 1) % h.length) = t at *
    clear nj mi mi' a c k lex
    -- x lies between p and q, and all lies on the left of x, t
    have hpq : ∃ m n : Int, 0 < m ∧ 0 < n ∧ m * (p.x - x.x) + n * (q.x - x.x) = 0 ∧ m * (p.y - x.y) + n * (q.y - x.y) = 0 := by
      unfold Btw at bt
      have n1' : ¬ (x.x = p.x ∧ x.y = p.y) := fun e => n1 (Pt.ext' e.1 e.2)
      have n2' : ¬ (x.x = q.x ∧ x.y = q.y) := fun e => n2 (Pt.ext' e.1 e.2)
      unfold turnP turnV at z
      by_cases hx : x.x = p.x
      · have z1 : (q.x - p.x) * (x.y - p.y) = 0 := by rw [hx] at z; grind
        have z2 : q.x = p.x := by have := (Int.mul_eq_zero.1 z1).resolve_right (by omega); omega
        have e1 : p.x - x.x = 0 := by omega
        have e2 : q.x - x.x = 0 := by omega
        rw [e1, e2]
        rcases Int.lt_or_le p.y x.y with c | c
        · exact ⟨q.y - x.y, x.y - p.y, by omega, by omega, by omega, by grind⟩
        · exact ⟨x.y - q.y, p.y - x.y, by omega, by omega, by omega, by grind⟩
      · by_cases hx2 : x.x = q.x
        · have z1 : (q.x - p.x) * (x.y - q.y) = 0 := by rw [hx2] at z; grind
          have := (Int.mul_eq_zero.1 z1).resolve_left (by omega)
          omega
        · rcases Int.lt_or_le p.x x.x with c | c
          · exact ⟨q.x - x.x, x.x - p.x, by omega, by omega, by grind, by grind⟩
          · exact ⟨x.x - q.x, p.x - x.x, by omega, by omega, by grind, by grind⟩
    obtain ⟨m, n, hm, hn, ex, ey⟩ := hpq
    have lin : m * turnP x t p + n * turnP x t q = 0 := by
      have : m * turnP x t p + n * turnP x t q = (t.x - x.x) * (m * (p.y - x.y) + n * (q.y - x.y)) - (t.y - x.y) * (m * (p.x - x.x) + n * (q.x - x.x)) := by unfold turnP turnV; grind
      rw [this, ex, ey]; simp
    have u1 := Int.mul_nonneg (Int.le_of_lt hm) bi.1
    have u2 := Int.mul_nonneg (Int.le_of_lt hn) bi'.1
    have z1 : turnP x t p = 0 := (Int.mul_eq_zero.1 (show m * turnP x t p = 0 by omega)).resolve_left (by omega)
    have z2 : turnP x t q = 0 := (Int.mul_eq_zero.1 (show n * turnP x t q = 0 by omega)).resolve_left (by omega)
    have b1 := bi.2 z1
    have b2 := bi'.2 z2
    have d1 : 0 ≤ (t.x - x.x) * (p.x - x.x) := by
      unfold Btw at b1
      rcases Int.le_total x.x t.x with c | c
      · exact Int.mul_nonneg (by omega) (by omega)
      · have := Int.mul_nonneg (show 0 ≤ -(t.x - x.x) by omega) (show 0 ≤ -(p.x - x.x) by omega); rwa [Int.neg_mul_neg] at this
    have d2 : 0 ≤ (t.x - x.x) * (q.x - x.x) := by
      unfold Btw at b2
      rcases Int.le_total x.x t.x with c | c
      · exact Int.mul_nonneg (by omega) (by omega)
      · have := Int.mul_nonneg (show 0 ≤ -(t.x - x.x) by omega) (show 0 ≤ -(q.x - x.x) by omega); rwa [Int.neg_mul_neg] at this
    have d3 : 0 ≤ (t.y - x.y) * (p.y - x.y) := by
      unfold Btw at b1
      rcases Int.le_total x.y t.y with c | c
      · exact Int.mul_nonneg (by omega) (by omega)
      · have := Int.mul_nonneg (show 0 ≤ -(t.y - x.y) by omega) (show 0 ≤ -(p.y - x.y) by omega); rwa [Int.neg_mul_neg] at this
    have d4 : 0 ≤ (t.y - x.y) * (q.y - x.y) := by
      unfold Btw at b2
      rcases Int.le_total x.y t.y with c | c
      · exact Int.mul_nonneg (by omega) (by omega)
      · have := Int.mul_nonneg (show 0 ≤ -(t.y - x.y) by omega) (show 0 ≤ -(q.y - x.y) by omega); rwa [Int.neg_mul_neg] at this
    have s1 : m * ((t.x - x.x) * (p.x - x.x)) + n * ((t.x - x.x) * (q.x - x.x)) = 0 := by
      have : m * ((t.x - x.x) * (p.x - x.x)) + n * ((t.x - x.x) * (q.x - x.x)) = (t.x - x.x) * (m * (p.x - x.x) + n * (q.x - x.x)) := by grind
      rw [this, ex, Int.mul_zero]
    have s2 : m * ((t.y - x.y) * (p.y - x.y)) + n * ((t.y - x.y) * (q.y - x.y)) = 0 := by
      have : m * ((t.y - x.y) * (p.y - x.y)) + n * ((t.y - x.y) * (q.y - x.y)) = (t.y - x.y) * (m * (p.y - x.y) + n * (q.y - x.y)) := by grind
      rw [this, ey, Int.mul_zero]
    have v1 := Int.mul_nonneg (Int.le_of_lt hm) d1
    have v2 := Int.mul_nonneg (Int.le_of_lt hn) d2
    have v3 := Int.mul_nonneg (Int.le_of_lt hm) d3
    have v4 := Int.mul_nonneg (Int.le_of_lt hn) d4
    have w1 : (t.x - x.x) * (p.x - x.x) = 0 := (Int.mul_eq_zero.1 (show m * ((t.x - x.x) * (p.x - x.x)) = 0 by omega)).resolve_left (by omega)
    have w3 : (t.y - x.y) * (p.y - x.y) = 0 := (Int.mul_eq_zero.1 (show m * ((t.y - x.y) * (p.y - x.y)) = 0 by omega)).resolve_left (by omega)
    -- so p = x
    have hne : ¬ (t.x = x.x ∧ t.y = x.y) := fun e => ne (Pt.ext' e.1.symm e.2.symm)
    have hpx : ¬ (p.x = x.x ∧ p.y = x.y) := fun e => n1 (Pt.ext' e.1.symm e.2.symm)
    unfold turnP turnV at z1
    rcases Int.mul_eq_zero.1 w1 with c | c
    · have c3 := (Int.mul_eq_zero.1 w3).resolve_left (by omega)
      rw [c, c3] at z1
      have z1' : (t.y - x.y) * (p.x - x.x) = 0 := by grind
      have := (Int.mul_eq_zero.1 z1').resolve_left (by omega)
      omega
    · have c3 : t.y - x.y = 0 := (Int.mul_eq_zero.1 w3).resolve_right (by omega)
      rw [c, c3] at z1
      have z1' : (t.x - x.x) * (p.y - x.y) = 0 := by grind
      have := (Int.mul_eq_zero.1 z1').resolve_left (by omega)
      omega
end Go.Proofs.YtdpnhckbabjagaaGreat
