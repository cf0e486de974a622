/- package rocks: First, Hit. | Plain: what Has, Common, First and Hit say of one another. | Plain geometry: polygons that have a point in common touch; those that touch have one. No program here. | Plain geometry: the disk with eight corners; the points of a hull. No program here. | landfallref33's Few, polygons and Rocks; the laws' usable. | The head of the laws on package rocks: its example. | Plain: what the first rock that is hit says. Slices of rocks. | Plain: what cut.Apart reports, in words of geometry. | Plain: polygons that are moved as a whole. | landfallref03's least and next; landfallref04's least. (Printed by tools/mknext.py.) | landfallref03's Around: the hull of points. | landfallref04's Crossings. (Printed by tools/mkrcross.py.) | landfallref04's Corners and Lies. | landfallref04's Common; landfallref33's First and Hit. (Printed by tools/mkrrocks.py.) | package mink: plus, the function that Shift hands to each, each. -/
import Derived.WalkMore
import Derived.Test.YtdkeiadpnnleoaaGreatBin11
import Derived.Test.YtdkeiadpnnleoaaGreatBin00
import Derived.Test.YtdkeiadpnnleoaaGreatBin12
import Derived.Deep.CutRange
import Derived.Test.YtdkeiadpnnleoaaGreatBin02
import Derived.Test.YtdkeiadpnnleoaaGreatBin07
import Derived.Test.YtdkeiadpnnleoaaGreatBin09
import Derived.Test.YtdkeiadpnnleoaaGreatBin10
import Derived.Test.YtdkeiadpnnleoaaGreatBin06
namespace Go.Proofs.YtdkeiadpnnleoaaGreat
open Go.RowKit
attribute [local irreducible] wpQuiet

/-- the first of the first k rocks that touches a corridor -/
noncomputable def hitTo (c : List Pt) (ls : List (List Pt)) : Nat → Option Nat
  | 0 => none
  | k + 1 => if (hitTo c ls k).isSome = true then hitTo c ls k else if touchB c (rk ls k) = true then some k else none
def natO (o : Option Nat) : Int := match o with | some k => k | none => 0
open Classical in
noncomputable def okRocks (c : List Pt) (ls : List (List Pt)) : Bool := goValid c && decide (∀ j, j < ls.length → goValid (rk ls j) = true)
noncomputable def firI (c : List Pt) (ls : List (List Pt)) : Int := if ls.length ≤ 100 ∧ okRocks c ls = true then natO (hitTo c ls ls.length) else 0
noncomputable def firB (c : List Pt) (ls : List (List Pt)) : Bool := if ls.length ≤ 100 ∧ okRocks c ls = true then (hitTo c ls ls.length).isSome else false
noncomputable def firE (c : List Pt) (ls : List (List Pt)) : Int := if ls.length ≤ 100 then (if okRocks c ls = true then 0 else 1) else 2
theorem fir_bad {c : List Pt} {ls : List (List Pt)} (h : ls.length ≤ 100) (hk : okRocks c ls = false) : firI c ls = 0 ∧ firB c ls = false ∧ firE c ls = 1 := by
  unfold firI firB firE
  simp [h, hk]

set_option linter.unusedSimpArgs false in
set_option maxRecDepth 4000 in
set_option maxHeartbeats 1600000 in
theorem first_any (vc vr : Value) (c : List Pt) (ls : List (List Pt)) (w : World) (hc : PtsAt w.heap.size w vc c) (hr : RocksAt w.heap.size w vr ls) :
    Calls Tryz.prog 96 #[vc, vr] w fun e w' => e = .returned (.tuple #[.int .i64 (firI c ls), .bool (firB c ls), .int .i64 (firE c ls)]) ∧ Below w.heap.size w w' := by
  obtain ⟨_, ar, capr, rfl, hrc⟩ := hr
  by_cases hbig : 100 < ls.length
  · have d1 : decide ((ls.length : Int) > 100) = true := by rw [decide_eq_true_eq]; omega
    have HR := Lib.hid (show firI c ls = 0 ∧ firB c ls = false ∧ firE c ls = 2 by unfold firI firB firE; simp [show ¬ ls.length ≤ 100 by omega])
    obtain ⟨ap, capp, rfl⟩ := hc.len
    clear hbig hrc hc
    go_enter Tryz.func96, Tryz.ntmps96
    go_wp2
    go_step3
    go_wp2
    (try rw [Exit.noGoto_ret]); go_ret3
    exact ⟨by rw [HR.out.1, HR.out.2.1, HR.out.2.2]; rfl, Below.refl _ _⟩
  · have d1 : decide ((ls.length : Int) > 100) = false := by rw [decide_eq_false_iff_not]; omega
    have hle : ls.length ≤ 100 := by omega
    have f1 := Lib.hid (fun w1 (B : Below w.heap.size w w1) => touching_any vc c w1 ((hc.below B).mono B.size))
    have f2 := Lib.hid (fun w1 (B : Below w.heap.size w w1) => hullValid_any vc c w1 ((hc.below B).mono B.size))
    have HP := Lib.hid hc
    obtain ⟨ap, capp, rfl⟩ := hc.len
    have HRC := Lib.hid hrc
    have hA := (Below.refl w.heap.size w).alloc (Nat.le_refl _) (.cells #[.slice ap c.length (c.length + capp)] 23)
    have hN := Lib.hid (Has.new w #[.slice ap c.length (c.length + capp)] 23)
    have HA := Lib.hid hA
    have hs0 : w.heap.size < (w.alloc (.cells #[.slice ap c.length (c.length + capp)] 23)).heap.size := by simp
    obtain ⟨gc, hgc⟩ : ∃ g, goValid c = g := ⟨_, rfl⟩
    rw [hgc] at f2
    have HGC := Lib.hid hgc
    clear hbig hrc hc hA hgc
    go_enter Tryz.func96, Tryz.ntmps96
    go_wp2
    go_step3
    go_wp2_with fail
    refine (f1.out _ (Below.refl _ _)).mono ?_
    rintro e w1 ⟨rfl, rfl⟩
    go_wp2_with fail
    refine (f2.out _ HA.out).mono ?_
    rintro e w2 ⟨rfl, hb2⟩
    have G2 := Lib.hid (hN.out.below hb2 hs0)
    have B2 := Lib.hid (HA.out.trans (hb2.mono HA.out.size))
    have hs2 := G2.out.lt
    clear hb2
    go_wp2
    go_step3
    go_wp2
    go_loopw [8, 9, 10, 22] (fun x y r i wr => ∃ k : Nat, k ≤ ls.length ∧ i = .int .i64 (k : Int) ∧ r = .bool gc ∧ x = .int .i64 (natO (hitTo c ls k)) ∧ y = .bool (hitTo c ls k).isSome ∧ (∀ j, j < k → goValid (rk ls j) = true) ∧ Below w2.heap.size w2 wr) (fun _ _ _ i _ => ls.length - (intOf i).toNat)
    case atStart => exact ⟨0, by omega, rfl, rfl, rfl, rfl, fun j h => by omega, Below.refl _ _⟩
    case round =>
      obtain ⟨k, hk, rfl, rfl, rfl, rfl, hall, hB⟩ := hrel
      have BB := B2.out.trans (hB.mono B2.out.size)
      have G := G2.out.below hB hs2
      have hzr := hB.size
      have HALL := Lib.hid hall
      clear hall
      by_cases hlt : k < ls.length
      · obtain ⟨b, o, rfl, hb, hcc⟩ : ∃ b o, ar = some ⟨b, o, none⟩ ∧ b < w.heap.size ∧ ∀ j, j < ls.length → ∃ u, w.cell? ⟨b, o + j, none⟩ = some u ∧ PtsAt w.heap.size w u (rk ls j) := by
          rcases HRC.out with h | h
          · rw [h] at hlt; simp at hlt
          · exact h
        obtain ⟨u, hu, hpu⟩ := hcc k hlt
        have e0 := (BB.cell (p := ⟨b, o + k, none⟩) hb).trans hu
        have hpz := (hpu.below BB).mono BB.size
        have hv := Lib.hid (hullValid_any u (rk ls k) wr hpz)
        have hcw := G.cell (i := 0) rfl
        have hst : Hid (hitTo c ls (k + 1) = if (hitTo c ls k).isSome = true then hitTo c ls k else if touchB c (rk ls k) = true then some k else none) := rfl
        obtain ⟨au, cu, rfl⟩ := hpu.len
        have dk : decide ((k : Int) < (ls.length : Int)) = true := by simp; omega
        have kl : (k : Int) < ls.length := by omega
        have k0 : (0 : Int) ≤ k := by omega
        have HB := Lib.hid hB
        have HBB := Lib.hid BB
        have HG := Lib.hid G
        have HPZ := Lib.hid hpz
        have HPC := Lib.hid ((HP.out.below BB).mono BB.size)
        clear hcc hu hpu hB BB G hpz hcw
        generalize hht : hitTo c ls k = ht at *
        cases hg : goValid (rk ls k)
        · have HR := Lib.hid (fir_bad hle (show okRocks c ls = false by
            unfold okRocks
            rw [Bool.and_eq_false_iff]
            right
            refine decide_eq_false fun h => ?_
            have := h k hlt
            rw [hg] at this; cases this))
          rw [hg] at hv
          clear hg hht
          go_wp2_with fail
          refine hv.out.mono ?_
          rintro e w3 ⟨rfl, hb3⟩
          have B3 := Lib.hid (HBB.out.trans (hb3.mono HBB.out.size))
          clear hb3
          go_wp2
          (try rw [Exit.noGoto_ret]); go_ret3
          exact ⟨by rw [HR.out.1, HR.out.2.1, HR.out.2.2]; rfl, B3.out⟩
        · rw [hg] at hv
          have HALL2 : Hid (∀ j, j < k + 1 → goValid (rk ls j) = true) := fun j hj => by
            by_cases e : j = k
            · rw [e]; exact hg
            · exact HALL.out j (by omega)
          clear hg
          go_wp2_with fail
          refine hv.out.mono ?_
          rintro e w3 ⟨rfl, hb3⟩
          have B3 := Lib.hid (HB.out.trans (hb3.mono (by omega)))
          have G3 := HG.out.below hb3 HG.out.lt
          have c3 := Lib.hid (G3.cell (i := 0) rfl)
          have HP3 := Lib.hid ((HPC.out.below hb3).mono hb3.size)
          have HZ3 := Lib.hid ((HPZ.out.below hb3).mono hb3.size)
          have hz3 := B3.out.size
          clear hb3 G3
          cases ht with
          | some q =>
            have hst2 : Hid (hitTo c ls (k + 1) = some q) := by show _ = _; rw [hst.out]; rfl
            go_wp2
            go_roundw
            case rel => exact ⟨k + 1, by omega, by go_num, rfl, by rw [hst2.out], by rw [hst2.out]; rfl, HALL2.out, B3.out⟩
            case measure => simp [intOf]; omega
          | none =>
            cases gc
            · have hst2 : Hid (hitTo c ls (k + 1) = none) := by
                show _ = _
                rw [hst.out]
                have : touchB c (rk ls k) = false := by unfold touchB; rw [HGC.out]; rfl
                rw [this]; rfl
              go_wp2
              go_roundw
              case rel => exact ⟨k + 1, by omega, by go_num, rfl, by rw [hst2.out], by rw [hst2.out]; rfl, HALL2.out, B3.out⟩
              case measure => simp [intOf]; omega
            · have ht := Lib.hid (touching1_any w.heap.size _ _ c (rk ls k) w3 c3.out HP3.out HZ3.out)
              go_wp2_with fail
              refine ht.out.mono ?_
              rintro e w4 ⟨rfl, hb4⟩
              have B4 := Lib.hid (B3.out.trans (hb4.mono (by omega)))
              clear hb4
              cases htb : touchB c (rk ls k)
              · have hst2 : Hid (hitTo c ls (k + 1) = none) := by show _ = _; rw [hst.out, htb]; rfl
                clear htb
                go_wp2
                go_roundw
                case rel => exact ⟨k + 1, by omega, by go_num, rfl, by rw [hst2.out], by rw [hst2.out]; rfl, HALL2.out, B4.out⟩
                case measure => simp [intOf]; omega
              · have hst2 : Hid (hitTo c ls (k + 1) = some k) := by show _ = _; rw [hst.out, htb]; rfl
                clear htb
                go_wp2
                go_roundw
                case rel => exact ⟨k + 1, by omega, by go_num, rfl, by rw [hst2.out]; rfl, by rw [hst2.out]; rfl, HALL2.out, B4.out⟩
                case measure => simp [intOf]; omega
      · obtain rfl : k = ls.length := by omega
        have dk : decide ((ls.length : Int) < (ls.length : Int)) = false := by simp
        have HBB := Lib.hid BB
        clear hB BB G
        cases gc
        · have HR := Lib.hid (fir_bad hle (show okRocks c ls = false by unfold okRocks; rw [HGC.out]; rfl))
          generalize hitTo c ls ls.length = ht at *
          go_wp2
          (try rw [Exit.noGoto_ret]); go_ret3
          exact ⟨by rw [HR.out.1, HR.out.2.1, HR.out.2.2]; rfl, HBB.out⟩
        · have hok : okRocks c ls = true := by
            unfold okRocks
            rw [HGC.out, Bool.true_and]
            exact decide_eq_true HALL.out
          have HR := Lib.hid (show firI c ls = natO (hitTo c ls ls.length) ∧ firB c ls = (hitTo c ls ls.length).isSome ∧ firE c ls = 0 by unfold firI firB firE; simp [hle, hok])
          clear hok
          go_wp2
          (try rw [Exit.noGoto_ret]); go_ret3
          exact ⟨by rw [HR.out.1, HR.out.2.1, HR.out.2.2]; rfl, HBB.out⟩


end Go.Proofs.YtdkeiadpnnleoaaGreat

namespace Go.Proofs.YtdkeiadpnnleoaaGreat

/-- a polygon's corners, by evaluation -/
def validC (l : List Pt) : Bool :=
  decide (1 ≤ l.length ∧ l.length ≤ 64) && (List.range l.length).all (fun k => placeP (nth l k) && (decide (k = 0) || decide (cmpP (nth l 0) (nth l k) < 0))) &&
    (decide (l.length < 3) || (List.range l.length).all (fun i => (List.range l.length).all (fun k => decide (nth l k = (sideP l i).1) || decide (nth l k = (sideP l i).2) || decide (0 < turnP (sideP l i).1 (sideP l i).2 (nth l k)))))
theorem validC_iff (l : List Pt) : validC l = true ↔ GoValid l := by
  simp only [validC, Bool.and_eq_true, Bool.or_eq_true, decide_eq_true_eq, List.all_eq_true, List.mem_range]
  constructor
  · rintro ⟨⟨⟨h1, h2⟩, h3⟩, h4⟩
    refine ⟨h1, h2, fun k hk => ⟨(h3 k hk).1, fun h0 => ?_⟩, fun hn i hi k hk e1 e2 => ?_⟩
    · rcases (h3 k hk).2 with h | h
      · omega
      · exact h
    · rcases h4 with h | h
      · omega
      · rcases h i hi k hk with (h | h) | h
        · exact absurd h e1
        · exact absurd h e2
        · exact h
  · rintro ⟨h1, h2, h3, h4⟩
    refine ⟨⟨⟨h1, h2⟩, fun k hk => ⟨(h3 k hk).1, ?_⟩⟩, ?_⟩
    · rcases Nat.eq_zero_or_pos k with h | h
      · exact .inl h
      · exact .inr ((h3 k hk).2 h)
    · rcases Nat.lt_or_ge l.length 3 with h | h
      · exact .inl h
      · refine .inr fun i hi k hk => ?_
        by_cases e1 : nth l k = (sideP l i).1
        · exact .inl (.inl e1)
        · by_cases e2 : nth l k = (sideP l i).2
          · exact .inl (.inr e2)
          · exact .inr (h4 h i hi k hk e1 e2)
theorem goValid_eq (l : List Pt) : goValid l = validC l := by
  cases h : validC l
  · have : ¬ GoValid l := fun h2 => by rw [(validC_iff l).2 h2] at h; cases h
    simpa [goValid] using this
  · have := (validC_iff l).1 h
    simpa [goValid] using this
theorem goValid_true {l : List Pt} (h : goValid l = true) : GoValid l := by simpa [goValid] using h

theorem loTo_le (f : Pt → Int) (l : List Pt) : ∀ k, (∀ j, j < k → loTo f l k ≤ f (nth l j)) ∧ loTo f l k ≤ f (nth l 0)
  | 0 => ⟨fun j h => by omega, Int.le_refl _⟩
  | k + 1 => by
    have ih := loTo_le f l k
    simp only [loTo]
    constructor
    · intro j hj
      by_cases e : j = k
      · subst e; split <;> omega
      · have := ih.1 j (by omega); split <;> omega
    · have := ih.2; split <;> omega
theorem hiTo_ge (f : Pt → Int) (l : List Pt) : ∀ k, (∀ j, j < k → f (nth l j) ≤ hiTo f l k) ∧ f (nth l 0) ≤ hiTo f l k
  | 0 => ⟨fun j h => by omega, Int.le_refl _⟩
  | k + 1 => by
    have ih := hiTo_ge f l k
    simp only [hiTo]
    constructor
    · intro j hj
      by_cases e : j = k
      · subst e; split <;> omega
      · have := ih.1 j (by omega); split <;> omega
    · have := ih.2; split <;> omega
/-- a polygon has its corners -/
theorem inside_corner {l : List Pt} (h : GoValid l) {k : Nat} (hk : k < l.length) : inside l (nth l k) = true := by
  unfold inside
  by_cases h3 : l.length < 3
  · rw [if_pos h3, decide_eq_true_eq]
    refine ⟨?_, (loTo_le bxF1 l l.length).1 k hk, (hiTo_ge bxF1 l l.length).1 k hk, (loTo_le bxF2 l l.length).1 k hk, (hiTo_ge bxF2 l l.length).1 k hk⟩
    rcases (show k = 0 ∨ k = l.length - 1 by omega) with e | e
    · rw [e]; unfold turnP turnV; grind
    · rw [e]; unfold turnP turnV; grind
  · rw [if_neg h3, decide_eq_true_eq]
    intro i hi
    by_cases e1 : nth l k = (sideP l i).1
    · rw [e1]; unfold turnP turnV; grind
    · by_cases e2 : nth l k = (sideP l i).2
      · rw [e2]; unfold turnP turnV; grind
      · have := h.2.2.2 (by omega) i hi k hk e1 e2; omega
theorem hasB_corner {l : List Pt} (h : goValid l = true) {k : Nat} (hk : k < l.length) : hasB l (nth l k) = true := by
  have g := goValid_true h
  simp only [hasB, h, (g.2.2.1 k hk).1, inside_corner g hk, Bool.and_true]

/-- corners by evaluation, where the other polygon is one -/
noncomputable def cornersC (l m : List Pt) : Nat → List Pt
  | 0 => []
  | k + 1 => if (placeP (nth l k) && inside m (nth l k)) = true then cornersC l m k ++ [nth l k] else cornersC l m k
theorem cornersC_eq {l m : List Pt} (hm : goValid m = true) : ∀ k, cornersTo l m k = cornersC l m k
  | 0 => rfl
  | k + 1 => by simp only [cornersTo, cornersC, hasB, hm, Bool.true_and, cornersC_eq hm k]
end Go.Proofs.YtdkeiadpnnleoaaGreat

namespace Go.Proofs.YtdkeiadpnnleoaaGreat

/-- a polygon has the point (X / W, Y / W) -/
def InH (l : List Pt) (X Y W : Int) : Prop :=
  if l.length < 3 then SegH (nth l 0) (nth l (l.length - 1)) X Y W else ∀ i, i < l.length → 0 ≤ hturn (sideP l i).1 (sideP l i).2 X Y W

theorem boxL_le {l : List Pt} {k : Nat} (hk : k < l.length) : (boxL l).x ≤ (nth l k).x ∧ (boxL l).y ≤ (nth l k).y := ⟨(loTo_le bxF1 l l.length).1 k hk, (loTo_le bxF2 l l.length).1 k hk⟩
theorem boxH_ge {l : List Pt} {k : Nat} (hk : k < l.length) : (nth l k).x ≤ (boxH l).x ∧ (nth l k).y ≤ (boxH l).y := ⟨(hiTo_ge bxF1 l l.length).1 k hk, (hiTo_ge bxF2 l l.length).1 k hk⟩
theorem loTo_two (f : Pt → Int) (l : List Pt) : ∀ k, (∃ j, (j < k ∨ j = 0) ∧ loTo f l k = f (nth l j))
  | 0 => ⟨0, .inr rfl, rfl⟩
  | k + 1 => by
    obtain ⟨j, hj, e⟩ := loTo_two f l k
    simp only [loTo]
    by_cases h : f (nth l k) < loTo f l k
    · exact ⟨k, .inl (by omega), by split <;> omega⟩
    · exact ⟨j, by omega, by split <;> omega⟩
theorem hiTo_two (f : Pt → Int) (l : List Pt) : ∀ k, (∃ j, (j < k ∨ j = 0) ∧ hiTo f l k = f (nth l j))
  | 0 => ⟨0, .inr rfl, rfl⟩
  | k + 1 => by
    obtain ⟨j, hj, e⟩ := hiTo_two f l k
    simp only [hiTo]
    by_cases h : hiTo f l k < f (nth l k)
    · exact ⟨k, .inl (by omega), by split <;> omega⟩
    · exact ⟨j, by omega, by split <;> omega⟩

/-- a linear number on a segment -/
theorem SegH.turn {a b : Pt} {X Y W K s t : Int} (e1 : K * X = s * a.x + t * b.x) (e2 : K * Y = s * a.y + t * b.y) (e3 : K * W = s + t) (u v : Pt) : K * hturn u v X Y W = s * turnP u v a + t * turnP u v b := by
  rw [← hturn_scale, e1, e2, e3]
  unfold hturn turnP turnV; grind
theorem mul_nn_cancel {K a : Int} (hK : 0 < K) (h : 0 ≤ K * a) : 0 ≤ a := by
  rcases Int.lt_or_le a 0 with h' | h'
  · have := Int.mul_neg_of_pos_of_neg hK h'; omega
  · exact h'

/-- in a polygon of one corner or two: ordered ends -/
def Ord (a b : Pt) : Prop := a = b ∨ a.x < b.x ∨ a.x = b.x ∧ a.y < b.y
theorem GoValid.ord {l : List Pt} (h : GoValid l) (h3 : l.length < 3) : Ord (nth l 0) (nth l (l.length - 1)) := by
  by_cases e : l.length = 1
  · left; rw [e]
  · have h1 := h.1
    have e2 : l.length = 2 := by omega
    have := (h.2.2.1 1 (by omega)).2 (by omega)
    rw [e2]
    unfold cmpP at this
    rw [cmpV_lt_iff] at this
    exact .inr this
theorem seg_of_box {a b x : Pt} (ho : Ord a b) (ht : turnP a b x = 0) (h1 : (if b.x < a.x then b.x else a.x) ≤ x.x) (h2 : x.x ≤ (if a.x < b.x then b.x else a.x)) (h3 : (if b.y < a.y then b.y else a.y) ≤ x.y) (h4 : x.y ≤ (if a.y < b.y then b.y else a.y)) : SegH a b x.x x.y 1 := by
  rcases ho with rfl | h | ⟨h, h'⟩
  · simp only [Int.lt_irrefl, if_false] at h1 h2 h3 h4
    exact ⟨1, 1, 0, by omega, by omega, by omega, by omega, by omega, by omega⟩
  · rw [if_neg (by omega)] at h1
    rw [if_pos h] at h2
    refine ⟨b.x - a.x, b.x - x.x, x.x - a.x, by omega, by omega, by omega, by grind, ?_, by omega⟩
    unfold turnP turnV at ht; grind
  · have hx : x.x = a.x := by rw [h, if_neg (by omega)] at h1 h2; omega
    rw [if_neg (by omega)] at h3
    rw [if_pos h'] at h4
    refine ⟨b.y - a.y, b.y - x.y, x.y - a.y, by omega, by omega, by omega, ?_, by grind, by omega⟩
    rw [hx, h]; grind
/-- what hull.Has has, in homogeneous words -/
theorem inH_of_inside {l : List Pt} (hl : GoValid l) {x : Pt} (h : inside l x = true) : InH l x.x x.y 1 := by
  unfold inside at h
  unfold InH
  by_cases h3 : l.length < 3
  · rw [if_pos h3] at h ⊢
    rw [decide_eq_true_eq] at h
    obtain ⟨ht, b1, b2, b3, b4⟩ := h
    have l1 := hl.1
    have two : ∀ j, (j < l.length ∨ j = 0) → nth l j = nth l 0 ∨ nth l j = nth l (l.length - 1) := fun j hj => by
      rcases (show j = 0 ∨ j = l.length - 1 by omega) with rfl | rfl
      · exact .inl rfl
      · exact .inr rfl
    refine seg_of_box (hl.ord h3) ht ?_ ?_ ?_ ?_
    · obtain ⟨j, hj, e⟩ := loTo_two bxF1 l l.length
      have e' : (boxL l).x = (nth l j).x := e
      rcases two j hj with q | q <;> rw [q] at e' <;> split <;> omega
    · obtain ⟨j, hj, e⟩ := hiTo_two bxF1 l l.length
      have e' : (boxH l).x = (nth l j).x := e
      rcases two j hj with q | q <;> rw [q] at e' <;> split <;> omega
    · obtain ⟨j, hj, e⟩ := loTo_two bxF2 l l.length
      have e' : (boxL l).y = (nth l j).y := e
      rcases two j hj with q | q <;> rw [q] at e' <;> split <;> omega
    · obtain ⟨j, hj, e⟩ := hiTo_two bxF2 l l.length
      have e' : (boxH l).y = (nth l j).y := e
      rcases two j hj with q | q <;> rw [q] at e' <;> split <;> omega
  · rw [if_neg h3] at h ⊢
    rw [decide_eq_true_eq] at h
    exact fun i hi => by rw [hturn_one]; exact h i hi
theorem inside_of_inH {l : List Pt} (h1 : 1 ≤ l.length) {x : Pt} (h : InH l x.x x.y 1) : inside l x = true := by
  unfold InH at h
  unfold inside
  by_cases h3 : l.length < 3
  · rw [if_pos h3] at h ⊢
    rw [decide_eq_true_eq]
    obtain ⟨K, s, t, hK, hs, ht, e1, e2, e3⟩ := h
    have tt := SegH.turn e1 e2 e3 (nth l 0) (nth l (l.length - 1))
    rw [hturn_one, hturn_fst, hturn_snd, Int.mul_zero, Int.mul_zero, Int.add_zero] at tt
    have l0 := boxL_le (l := l) (k := 0) (by omega)
    have l1 := boxL_le (l := l) (k := l.length - 1) (by omega)
    have g0 := boxH_ge (l := l) (k := 0) (by omega)
    have g1 := boxH_ge (l := l) (k := l.length - 1) (by omega)
    generalize nth l 0 = a at *
    generalize nth l (l.length - 1) = b at *
    have lo : ∀ c p q r : Int, c ≤ p → c ≤ q → K * r = s * p + t * q → c ≤ r := fun c p q r hp hq e => by
      have m1 := Int.mul_nonneg hs (show 0 ≤ p - c by omega)
      have m2 := Int.mul_nonneg ht (show 0 ≤ q - c by omega)
      have : 0 ≤ r - c := mul_nn_cancel hK (by
        have : K * (r - c) = s * (p - c) + t * (q - c) := by rw [Int.mul_sub, e]; grind
        omega)
      omega
    have hi : ∀ c p q r : Int, p ≤ c → q ≤ c → K * r = s * p + t * q → r ≤ c := fun c p q r hp hq e => by
      have m1 := Int.mul_nonneg hs (show 0 ≤ c - p by omega)
      have m2 := Int.mul_nonneg ht (show 0 ≤ c - q by omega)
      have : 0 ≤ c - r := mul_nn_cancel hK (by
        have : K * (c - r) = s * (c - p) + t * (c - q) := by rw [Int.mul_sub, e]; grind
        omega)
      omega
    refine ⟨?_, lo _ _ _ _ l0.1 l1.1 e1, hi _ _ _ _ g0.1 g1.1 e1, lo _ _ _ _ l0.2 l1.2 e2, hi _ _ _ _ g0.2 g1.2 e2⟩
    rcases Int.mul_eq_zero.1 tt with h | h
    · omega
    · exact h
  · rw [if_neg h3] at h ⊢
    rw [decide_eq_true_eq]
    exact fun i hi => by rw [← hturn_one]; exact h i hi

/-- polygons with three corners or more turn left -/
theorem GoValid.conv {l : List Pt} (h : GoValid l) (h3 : 3 ≤ l.length) : Conv (nth l) l.length := by
  have hd := go_distinct (l := l) (fun k h1 hk => (h.2.2.1 k hk).2 h1) (fun i hi k hk a b => h.2.2.2 h3 i hi k hk a b)
  have ne : ∀ i k, i < l.length → k < l.length → i ≠ k → nth l i ≠ nth l k := by
    intro i k hi hk hne e
    rcases Nat.lt_or_gt_of_ne hne with h' | h'
    · exact hd _ i k rfl h' hk e
    · exact hd _ k i rfl h' hi e.symm
  refine ⟨h3, fun i hi k hk e1 e2 => h.2.2.2 h3 i hi k hk (ne _ _ hk hi e1) (ne _ _ hk (nx_lt h3) e2)⟩
/-- if sides of a polygon are not negative at three places with weights, they are not at what these make -/
theorem inH_mix {l : List Pt} {X Y W X1 Y1 W1 X2 Y2 W2 K s t : Int} (hK : 0 < K) (hs : 0 ≤ s) (ht : 0 ≤ t) (e1 : K * X = s * X1 + t * X2) (e2 : K * Y = s * Y1 + t * Y2) (e3 : K * W = s * W1 + t * W2)
    (h1 : InH l X1 Y1 W1) (h2 : InH l X2 Y2 W2) : InH l X Y W := by
  unfold InH at *
  by_cases h3 : l.length < 3
  · rw [if_pos h3] at *
    obtain ⟨k, p, q, k0, p0, q0, a1, a2, a3⟩ := h1
    obtain ⟨k', p', q', k0', p0', q0', b1, b2, b3⟩ := h2
    have n1 := Int.mul_nonneg (Int.mul_nonneg hs (Int.le_of_lt k0')) p0
    have n2 := Int.mul_nonneg (Int.mul_nonneg ht (Int.le_of_lt k0)) p0'
    have n3 := Int.mul_nonneg (Int.mul_nonneg hs (Int.le_of_lt k0')) q0
    have n4 := Int.mul_nonneg (Int.mul_nonneg ht (Int.le_of_lt k0)) q0'
    refine ⟨k * k' * K, s * k' * p + t * k * p', s * k' * q + t * k * q', Int.mul_pos (Int.mul_pos k0 k0') hK, by omega, by omega, ?_, ?_, ?_⟩
    · have : k * k' * K * X = s * k' * (k * X1) + t * k * (k' * X2) := by
        have : k * k' * K * X = k * k' * (K * X) := by grind
        rw [this, e1]; grind
      rw [this, a1, b1]; grind
    · have : k * k' * K * Y = s * k' * (k * Y1) + t * k * (k' * Y2) := by
        have : k * k' * K * Y = k * k' * (K * Y) := by grind
        rw [this, e2]; grind
      rw [this, a2, b2]; grind
    · have : k * k' * K * W = s * k' * (k * W1) + t * k * (k' * W2) := by
        have : k * k' * K * W = k * k' * (K * W) := by grind
        rw [this, e3]; grind
      rw [this, a3, b3]; grind
  · rw [if_neg h3] at *
    intro i hi
    have a := Int.mul_nonneg hs (h1 i hi)
    have b := Int.mul_nonneg ht (h2 i hi)
    refine mul_nn_cancel hK ?_
    rw [← hturn_scale, e1, e2, e3, hturn_lin]
    omega

/-- two sides cross -/
def CrossS (S T : Pt × Pt) : Prop := (crossB (turnP S.1 S.2 T.1) (turnP S.1 S.2 T.2) && crossB (turnP T.1 T.2 S.1) (turnP T.1 T.2 S.2)) = true
theorem CrossS.symm {S T : Pt × Pt} (h : CrossS S T) : CrossS T S := by unfold CrossS at *; rwa [Bool.and_comm]


/-- two polygons have a corner in the other one, or sides that cross -/
def Touch (l m : List Pt) : Prop := (∃ k, k < l.length ∧ inside m (nth l k) = true) ∨ (∃ k, k < m.length ∧ inside l (nth m k) = true) ∨ ∃ i j, i < l.length ∧ j < m.length ∧ CrossS (sideP l i) (sideP m j)
theorem Touch.symm {l m : List Pt} (h : Touch l m) : Touch m l := by
  rcases h with h | h | ⟨i, j, hi, hj, h⟩
  · exact .inr (.inl h)
  · exact .inl h
  · exact .inr (.inr ⟨j, i, hj, hi, h.symm⟩)
end Go.Proofs.YtdkeiadpnnleoaaGreat

namespace Go.Proofs.YtdkeiadpnnleoaaGreat

/-- the least number whose square is at least twice that of another one -/
def wideN (n : Nat) : Nat := if isqrt (2 * n * n) * isqrt (2 * n * n) = 2 * n * n then isqrt (2 * n * n) else isqrt (2 * n * n) + 1
theorem wideN_spec (n : Nat) : 2 * n * n ≤ wideN n * wideN n ∧ ∀ m, m < wideN n → m * m < 2 * n * n := by
  have h := isqrt_spec (2 * n * n)
  unfold wideN
  generalize isqrt (2 * n * n) = r at *
  generalize 2 * n * n = q at *
  split
  · refine ⟨by omega, fun m hm => ?_⟩
    have := Nat.mul_lt_mul'' hm hm
    omega
  · refine ⟨by omega, fun m hm => ?_⟩
    have := Nat.mul_le_mul (show m ≤ r by omega) (show m ≤ r by omega)
    omega
theorem wideN_le {n m : Nat} (h : 2 * n * n ≤ m * m) : wideN n ≤ m := by
  rcases Nat.lt_or_ge m (wideN n) with h' | h'
  · have := (wideN_spec n).2 m h'; omega
  · exact h'
theorem wideN_mono {n m : Nat} (h : n ≤ m) : wideN n ≤ wideN m := by
  refine wideN_le (Nat.le_trans ?_ (wideN_spec m).1)
  rw [Nat.mul_assoc, Nat.mul_assoc]
  exact Nat.mul_le_mul_left 2 (Nat.mul_le_mul h h)
theorem wideN_ge (n : Nat) : n ≤ wideN n := by
  rcases Nat.lt_or_ge (wideN n) n with h' | h'
  · have := (wideN_spec n).1
    have b := Nat.mul_lt_mul'' h' h'
    rw [Nat.mul_assoc] at this
    omega
  · exact h'
theorem wideN_two (n : Nat) : wideN n ≤ 2 * n := wideN_le (by
  have : 2 * n * (2 * n) = 2 * (2 * n * n) := by grind
  omega)
def octK (n : Nat) : Int := (wideN n : Int) - n
theorem octK_bd (n : Nat) : 0 ≤ octK n ∧ octK n ≤ n := by
  have := wideN_ge n
  have := wideN_two n
  unfold octK; omega
theorem oct_in {P : Int → Int → Int → Prop} (mix : ∀ {X1 Y1 W1 X2 Y2 W2 K s t X Y W : Int}, 0 < K → 0 ≤ s → 0 ≤ t → K * X = s * X1 + t * X2 → K * Y = s * Y1 + t * Y2 → K * W = s * W1 + t * W2 → P X1 Y1 W1 → P X2 Y2 W2 → P X Y W)
    {n k : Int} (h0 : 0 ≤ k) (hn : k ≤ n) (p1 : P n (-k) 1) (p2 : P n k 1) (p3 : P k n 1) (p4 : P (-k) n 1) (p5 : P (-n) k 1) (p6 : P (-n) (-k) 1) (p7 : P (-k) (-n) 1) (p8 : P k (-n) 1)
    {x y : Int} (x1 : -n ≤ x) (x2 : x ≤ n) (y1 : -n ≤ y) (y2 : y ≤ n) (q1 : x + y ≤ n + k) (q2 : x - y ≤ n + k) (q3 : -x + y ≤ n + k) (q4 : -x - y ≤ n + k) : P x y 1 := by
  have ends : ∃ e, 0 ≤ e ∧ -e ≤ x ∧ x ≤ e ∧ P e y 1 ∧ P (-e) y 1 := by
    by_cases c : -k ≤ y ∧ y ≤ k
    · refine ⟨n, by omega, x1, x2, ?_, ?_⟩
      · by_cases z : k = 0
        · subst z; rw [show y = 0 by omega]; exact p2
        · exact mix (K := 2 * k) (s := y + k) (t := k - y) (by omega) (by omega) (by omega) (by grind) (by grind) (by grind) p2 p1
      · by_cases z : k = 0
        · subst z; rw [show y = 0 by omega]; exact p5
        · exact mix (K := 2 * k) (s := y + k) (t := k - y) (by omega) (by omega) (by omega) (by grind) (by grind) (by grind) p5 p6
    · by_cases c2 : k < y
      · refine ⟨n + k - y, by omega, by omega, by omega, ?_, ?_⟩
        · exact mix (K := n - k) (s := n - y) (t := y - k) (by omega) (by omega) (by omega) (by grind) (by grind) (by grind) p2 p3
        · exact mix (K := n - k) (s := n - y) (t := y - k) (by omega) (by omega) (by omega) (by grind) (by grind) (by grind) p5 p4
      · refine ⟨n + k + y, by omega, by omega, by omega, ?_, ?_⟩
        · exact mix (K := n - k) (s := n + y) (t := -y - k) (by omega) (by omega) (by omega) (by grind) (by grind) (by grind) p1 p8
        · exact mix (K := n - k) (s := n + y) (t := -y - k) (by omega) (by omega) (by omega) (by grind) (by grind) (by grind) p6 p7
  obtain ⟨e, e0, e1, e2, pr, pl⟩ := ends
  by_cases z : e = 0
  · subst z; rw [show x = 0 by omega]; exact pr
  · exact mix (K := 2 * e) (s := x + e) (t := e - x) (by omega) (by omega) (by omega) (by grind) (by grind) (by grind) pr pl

/-- a hull has all the points of its list -/
theorem hull_has {l h : List Pt} (k : HullOf l h) {x : Pt} (hx : x ∈ l) : InH h x.x x.y 1 := by
  have hl : l ≠ [] := List.ne_nil_of_mem hx
  have h1 := k.some hl
  unfold InH
  by_cases h3 : h.length < 3
  · rw [if_pos h3]
    rcases (show h.length = 1 ∨ h.length = 2 by omega) with e | e
    · have n0 := k.next 0 (by omega)
      rw [e] at n0 ⊢
      have := n0.2.1 rfl x hx
      simp only [Nat.sub_self]
      rw [this]
      exact ⟨1, 1, 0, by omega, by omega, by omega, by omega, by omega, by omega⟩
    · have n0 := k.next 0 (by omega)
      have n1 := k.next 1 (by omega)
      rw [e] at n0 n1 ⊢
      have a := n0.2.2 x hx
      have b := (n1.2.2 x hx).1
      change 0 ≤ turnP (nth h 0) (nth h 1) x ∧ (turnP (nth h 0) (nth h 1) x = 0 → Btw (nth h 0) (nth h 1) x) at a
      change 0 ≤ turnP (nth h 1) (nth h 0) x at b
      have sw : turnP (nth h 1) (nth h 0) x = -turnP (nth h 0) (nth h 1) x := turn_neg _ _ _
      have z : turnP (nth h 0) (nth h 1) x = 0 := by omega
      have bt := a.2 z
      have lt : LexLt (nth h 0) (nth h 1) := by
        have m1 : nth h 1 ∈ l := n0.1
        have := (k.first hl).2 _ m1
        rcases LexLt.tri (nth h 0) (nth h 1) with c | c | c
        · exact c
        · exact absurd c.symm (k.back 1 (by omega) (by omega))
        · exact absurd c this
      show SegH (nth h 0) (nth h 1) x.x x.y 1
      unfold Btw at bt
      unfold LexLt at lt
      exact seg_of_box (.inr lt) z (by split <;> omega) (by split <;> omega) (by split <;> omega) (by split <;> omega)
  · rw [if_neg h3]
    intro i hi
    rw [hturn_one]
    exact ((k.next i hi).2.2 x hx).1
theorem hull_mem {l h : List Pt} (k : HullOf l h) {i : Nat} (hi : i < h.length) : nth h i ∈ l := by
  by_cases h0 : i = 0
  · subst h0
    by_cases hl : l = []
    · rw [k.none hl] at hi; simp at hi
    · exact (k.first hl).1
  · have := k.next (i - 1) (by omega)
    rw [show i - 1 + 1 = i by omega, Nat.mod_eq_of_lt hi] at this
    exact this.1
theorem cmp_lex {a b : Pt} : cmpP a b < 0 ↔ LexLt a b := by
  unfold cmpP LexLt cmpV orI cmpI
  repeat' split
  all_goals omega
/-- a hull of places that is not too large is a polygon -/
theorem hull_valid {l h : List Pt} (k : HullOf l h) (hl : l ≠ []) (h64 : h.length ≤ 64) (hp : ∀ x, x ∈ l → placeP x = true) : GoValid h := by
  have lex : ∀ i, 0 < i → i < h.length → LexLt (nth h 0) (nth h i) := fun i h0 hi => by
    have := (k.first hl).2 _ (hull_mem k hi)
    rcases LexLt.tri (nth h 0) (nth h i) with c | c | c
    · exact c
    · exact absurd c.symm (k.back i h0 hi)
    · exact absurd c this
  refine ⟨k.some hl, h64, fun i hi => ⟨hp _ (hull_mem k hi), fun h0 => cmp_lex.2 (lex i h0 hi)⟩, fun h3 i hi j hj n1 n2 => ?_⟩
  have a := (k.next i hi).2.2 _ (hull_mem k hj)
  unfold sideP at n1 n2 ⊢
  simp only at n1 n2 ⊢
  rcases Int.lt_or_le 0 (turnP (nth h i) (nth h ((i + 1) % h.length)) (nth h j)) with c | c
  · exact c
  · exfalso
    have z : turnP (nth h i) (nth h ((i + 1) % h.length)) (nth h j) = 0 := by omega
    have bt := a.2 z
    have mi := hull_mem k hi
    have mi' := hull_mem k (Nat.mod_lt (i + 1) (by omega) : (i + 1) % h.length < h.length)
    have nj := k.next j hj
    have bi := nj.2.2 _ mi
    have bi' := nj.2.2 _ mi'
    have ne : nth h j ≠ nth h ((j + 1) % h.length) := fun e => by
      have all := nj.2.1 e.symm
      exact n1 (all _ mi).symm
    generalize nth h i = p at *
    generalize nth h ((i + 1) % h.length) = q at *
    generalize nth h j = x at *
    generalize nth h ((j + 1) % h.length) = t at *
    clear nj mi mi' a c k lex
    -- x lies between p and q, and all lies on the left of x, t
    have hpq : ∃ m n : Int, 0 < m ∧ 0 < n ∧ m * (p.x - x.x) + n * (q.x - x.x) = 0 ∧ m * (p.y - x.y) + n * (q.y - x.y) = 0 := by
      unfold Btw at bt
      have n1' : ¬ (x.x = p.x ∧ x.y = p.y) := fun e => n1 (Pt.ext' e.1 e.2)
      have n2' : ¬ (x.x = q.x ∧ x.y = q.y) := fun e => n2 (Pt.ext' e.1 e.2)
      unfold turnP turnV at z
      by_cases hx : x.x = p.x
      · have z1 : (q.x - p.x) * (x.y - p.y) = 0 := by rw [hx] at z; grind
        have z2 : q.x = p.x := by have := (Int.mul_eq_zero.1 z1).resolve_right (by omega); omega
        have e1 : p.x - x.x = 0 := by omega
        have e2 : q.x - x.x = 0 := by omega
        rw [e1, e2]
        rcases Int.lt_or_le p.y x.y with c | c
        · exact ⟨q.y - x.y, x.y - p.y, by omega, by omega, by omega, by grind⟩
        · exact ⟨x.y - q.y, p.y - x.y, by omega, by omega, by omega, by grind⟩
      · by_cases hx2 : x.x = q.x
        · have z1 : (q.x - p.x) * (x.y - q.y) = 0 := by rw [hx2] at z; grind
          have := (Int.mul_eq_zero.1 z1).resolve_left (by omega)
          omega
        · rcases Int.lt_or_le p.x x.x with c | c
          · exact ⟨q.x - x.x, x.x - p.x, by omega, by omega, by grind, by grind⟩
          · exact ⟨x.x - q.x, p.x - x.x, by omega, by omega, by grind, by grind⟩
    obtain ⟨m, n, hm, hn, ex, ey⟩ := hpq
    have lin : m * turnP x t p + n * turnP x t q = 0 := by
      have : m * turnP x t p + n * turnP x t q = (t.x - x.x) * (m * (p.y - x.y) + n * (q.y - x.y)) - (t.y - x.y) * (m * (p.x - x.x) + n * (q.x - x.x)) := by unfold turnP turnV; grind
      rw [this, ex, ey]; simp
    have u1 := Int.mul_nonneg (Int.le_of_lt hm) bi.1
    have u2 := Int.mul_nonneg (Int.le_of_lt hn) bi'.1
    have z1 : turnP x t p = 0 := (Int.mul_eq_zero.1 (show m * turnP x t p = 0 by omega)).resolve_left (by omega)
    have z2 : turnP x t q = 0 := (Int.mul_eq_zero.1 (show n * turnP x t q = 0 by omega)).resolve_left (by omega)
    have b1 := bi.2 z1
    have b2 := bi'.2 z2
    have d1 : 0 ≤ (t.x - x.x) * (p.x - x.x) := by
      unfold Btw at b1
      rcases Int.le_total x.x t.x with c | c
      · exact Int.mul_nonneg (by omega) (by omega)
      · have := Int.mul_nonneg (show 0 ≤ -(t.x - x.x) by omega) (show 0 ≤ -(p.x - x.x) by omega); rwa [Int.neg_mul_neg] at this
    have d2 : 0 ≤ (t.x - x.x) * (q.x - x.x) := by
      unfold Btw at b2
      rcases Int.le_total x.x t.x with c | c
      · exact Int.mul_nonneg (by omega) (by omega)
      · have := Int.mul_nonneg (show 0 ≤ -(t.x - x.x) by omega) (show 0 ≤ -(q.x - x.x) by omega); rwa [Int.neg_mul_neg] at this
    have d3 : 0 ≤ (t.y - x.y) * (p.y - x.y) := by
      unfold Btw at b1
      rcases Int.le_total x.y t.y with c | c
      · exact Int.mul_nonneg (by omega) (by omega)
      · have := Int.mul_nonneg (show 0 ≤ -(t.y - x.y) by omega) (show 0 ≤ -(p.y - x.y) by omega); rwa [Int.neg_mul_neg] at this
    have d4 : 0 ≤ (t.y - x.y) * (q.y - x.y) := by
      unfold Btw at b2
      rcases Int.le_total x.y t.y with c | c
      · exact Int.mul_nonneg (by omega) (by omega)
      · have := Int.mul_nonneg (show 0 ≤ -(t.y - x.y) by omega) (show 0 ≤ -(q.y - x.y) by omega); rwa [Int.neg_mul_neg] at this
    have s1 : m * ((t.x - x.x) * (p.x - x.x)) + n * ((t.x - x.x) * (q.x - x.x)) = 0 := by
      have : m * ((t.x - x.x) * (p.x - x.x)) + n * ((t.x - x.x) * (q.x - x.x)) = (t.x - x.x) * (m * (p.x - x.x) + n * (q.x - x.x)) := by grind
      rw [this, ex, Int.mul_zero]
    have s2 : m * ((t.y - x.y) * (p.y - x.y)) + n * ((t.y - x.y) * (q.y - x.y)) = 0 := by
      have : m * ((t.y - x.y) * (p.y - x.y)) + n * ((t.y - x.y) * (q.y - x.y)) = (t.y - x.y) * (m * (p.y - x.y) + n * (q.y - x.y)) := by grind
      rw [this, ey, Int.mul_zero]
    have v1 := Int.mul_nonneg (Int.le_of_lt hm) d1
    have v2 := Int.mul_nonneg (Int.le_of_lt hn) d2
    have v3 := Int.mul_nonneg (Int.le_of_lt hm) d3
    have v4 := Int.mul_nonneg (Int.le_of_lt hn) d4
    have w1 : (t.x - x.x) * (p.x - x.x) = 0 := (Int.mul_eq_zero.1 (show m * ((t.x - x.x) * (p.x - x.x)) = 0 by omega)).resolve_left (by omega)
    have w3 : (t.y - x.y) * (p.y - x.y) = 0 := (Int.mul_eq_zero.1 (show m * ((t.y - x.y) * (p.y - x.y)) = 0 by omega)).resolve_left (by omega)
    -- so p = x
    have hne : ¬ (t.x = x.x ∧ t.y = x.y) := fun e => ne (Pt.ext' e.1.symm e.2.symm)
    have hpx : ¬ (p.x = x.x ∧ p.y = x.y) := fun e => n1 (Pt.ext' e.1.symm e.2.symm)
    unfold turnP turnV at z1
    rcases Int.mul_eq_zero.1 w1 with c | c
    · have c3 := (Int.mul_eq_zero.1 w3).resolve_left (by omega)
      rw [c, c3] at z1
      have z1' : (t.y - x.y) * (p.x - x.x) = 0 := by grind
      have := (Int.mul_eq_zero.1 z1').resolve_left (by omega)
      omega
    · have c3 : t.y - x.y = 0 := (Int.mul_eq_zero.1 w3).resolve_right (by omega)
      rw [c, c3] at z1
      have z1' : (t.x - x.x) * (p.y - x.y) = 0 := by grind
      have := (Int.mul_eq_zero.1 z1').resolve_left (by omega)
      omega
end Go.Proofs.YtdkeiadpnnleoaaGreat

namespace Go.Proofs.YtdkeiadpnnleoaaGreat
open Go.RowKit
attribute [local irreducible] wpQuiet


open Classical in
/-- all are polygons -/
noncomputable def polysB (ls : List (List Pt)) : Bool := decide (∀ j, j < ls.length → goValid (rk ls j) = true)
theorem polysB_iff {ls : List (List Pt)} : polysB ls = true ↔ ∀ j, j < ls.length → goValid (rk ls j) = true := by unfold polysB; rw [decide_eq_true_eq]
end Go.Proofs.YtdkeiadpnnleoaaGreat

namespace Go.Proofs.YtdkeiadpnnleoaaGreat
open Go.RowKit
attribute [local irreducible] wpQuiet



theorem PtsAt.has {W : World} {B : Nat} {cs : Array Value} {t : TypeId} {l : List Pt} {cap : Nat} (h : Has W B cs t) (hl : l.length ≤ 70368744177663) (hcs : cs = (ptCells l).toArray) :
    PtsAt W.heap.size W (.slice (some ⟨B, 0, none⟩) l.length (l.length + cap)) l := by
  subst hcs
  refine ⟨hl, some ⟨B, 0, none⟩, cap, rfl, .inr ⟨B, 0, rfl, h.lt, fun j hj => ?_⟩⟩
  obtain ⟨f0, f1⟩ := ptCells_get l j hj
  rw [Nat.zero_add]
  exact ⟨h.cell (by simpa using f0), h.cell (by simpa using f1)⟩
theorem Has.alloc {W : World} {B : Nat} {cs : Array Value} {t : TypeId} (h : Has W B cs t) (o : Obj) : Has (W.alloc o) B cs t :=
  h.below ((Below.refl W.heap.size W).alloc (Nat.le_refl _) o) h.lt
theorem RocksAt.has {W : World} {B : Nat} {cs : Array Value} {t : TypeId} {ls : List (List Pt)} {cap : Nat} (h : Has W B cs t) (hl : ls.length ≤ 70368744177663)
    (hcs : ∀ j, j < ls.length → ∃ u, cs[j]? = some u ∧ PtsAt W.heap.size W u (rk ls j)) :
    RocksAt W.heap.size W (.slice (some ⟨B, 0, none⟩) ls.length (ls.length + cap)) ls := by
  refine ⟨hl, some ⟨B, 0, none⟩, cap, rfl, .inr ⟨B, 0, rfl, h.lt, fun j hj => ?_⟩⟩
  obtain ⟨u, hu, hp⟩ := hcs j hj
  exact ⟨u, h.cell (by rw [Nat.zero_add]; exact hu), hp⟩

end Go.Proofs.YtdkeiadpnnleoaaGreat

namespace Go.Proofs.YtdkeiadpnnleoaaGreat

theorem hitTo_some {c : List Pt} {ls : List (List Pt)} : ∀ {k i}, hitTo c ls k = some i → i < k ∧ touchB c (rk ls i) = true ∧ ∀ j, j < i → touchB c (rk ls j) = false
  | 0, i, h => by cases h
  | k + 1, i, h => by
    simp only [hitTo] at h
    cases hk : hitTo c ls k with
    | some q =>
      rw [hk] at h
      simp only [Option.isSome_some, if_true] at h
      cases h
      obtain ⟨h1, h2, h3⟩ := hitTo_some hk
      exact ⟨by omega, h2, h3⟩
    | none =>
      rw [hk] at h
      simp only [Option.isSome_none, Bool.false_eq_true, if_false] at h
      split at h
      · cases h
        refine ⟨by omega, by assumption, fun j hj => ?_⟩
        exact hitTo_none hk j hj
      · cases h
where
  hitTo_none {c : List Pt} {ls : List (List Pt)} : ∀ {k}, hitTo c ls k = none → ∀ j, j < k → touchB c (rk ls j) = false
  | 0, _, j, hj => by omega
  | k + 1, h, j, hj => by
    simp only [hitTo] at h
    cases hk : hitTo c ls k with
    | some q => rw [hk] at h; cases h
    | none =>
      rw [hk] at h
      simp only [Option.isSome_none, Bool.false_eq_true, if_false] at h
      split at h
      · cases h
      · rename_i ht
        by_cases e : j = k
        · rw [e]; simpa using ht
        · exact hitTo_none hk j (by omega)
theorem hitTo_none {c : List Pt} {ls : List (List Pt)} {k : Nat} (h : hitTo c ls k = none) : ∀ j, j < k → touchB c (rk ls j) = false := hitTo_some.hitTo_none h
theorem rk_take {ls : List (List Pt)} {n j : Nat} (h : j < n) : rk (ls.take n) j = rk ls j := by
  unfold rk; simp [List.getD_eq_getElem?_getD, h]

/-- the first n of the rocks in a slice -/
theorem RocksAt.take {n0 : Nat} {W : World} {a : Option Addr} {ls : List (List Pt)} {cap : Nat} (h : RocksAt n0 W (.slice a ls.length (ls.length + cap)) ls) {n : Nat} (hn : n ≤ ls.length) :
    RocksAt n0 W (.slice a n (ls.length + cap)) (ls.take n) := by
  obtain ⟨hl, a', cap', he, hc⟩ := h
  have e : (ls.take n).length = n := by simp; omega
  simp only [Value.slice.injEq] at he
  obtain ⟨rfl, _, hcap⟩ := he
  refine ⟨by omega, a, ls.length - n + cap, by rw [e, show n + (ls.length - n + cap) = ls.length + cap by omega], ?_⟩
  rcases hc with rfl | ⟨b, o, rfl, hb, hcc⟩
  · left; simp
  · refine .inr ⟨b, o, rfl, hb, fun j hj => ?_⟩
    rw [e] at hj
    rw [rk_take hj]
    exact hcc j (by omega)
theorem RocksAt.one {n0 : Nat} {W : World} {b o : Nat} {ls : List (List Pt)} {cap cap1 : Nat} (h : RocksAt n0 W (.slice (some ⟨b, o, none⟩) ls.length (ls.length + cap)) ls) {i : Nat} (hi : i < ls.length) :
    RocksAt n0 W (.slice (some ⟨b, o + i, none⟩) 1 (1 + cap1)) [rk ls i] := by
  obtain ⟨hl, a', cap', he, hc⟩ := h
  simp only [Value.slice.injEq] at he
  obtain ⟨rfl, _, hcap⟩ := he
  refine ⟨by simp, some ⟨b, o + i, none⟩, cap1, rfl, ?_⟩
  rcases hc with rfl | ⟨b', o', e, hb, hcc⟩
  · simp at hi
  · cases e
    refine .inr ⟨b, o + i, rfl, hb, fun j hj => ?_⟩
    obtain rfl : j = 0 := by simpa using hj
    exact hcc i hi
end Go.Proofs.YtdkeiadpnnleoaaGreat

namespace Go.Proofs.YtdkeiadpnnleoaaGreat

theorem goValid_of {l : List Pt} (h : GoValid l) : goValid l = true := by simpa [goValid] using h
theorem hasB_iff {l : List Pt} {x : Pt} (hl : GoValid l) (hx : placeP x = true) : hasB l x = true ↔ inside l x = true := by
  unfold hasB; rw [goValid_of hl, hx]; simp

/-- a polygon's points are made of three corners, or fewer -/
theorem inH_corners {l : List Pt} (hl : GoValid l) {X Y W : Int} (h : InH l X Y W) : ∃ a b c : Nat, a < l.length ∧ b < l.length ∧ c < l.length ∧ ∃ K r s t : Int, 0 < K ∧ 0 ≤ r ∧ 0 ≤ s ∧ 0 ≤ t ∧
    K * X = r * (nth l a).x + s * (nth l b).x + t * (nth l c).x ∧ K * Y = r * (nth l a).y + s * (nth l b).y + t * (nth l c).y ∧ K * W = r + s + t := by
  have l1 := hl.1
  unfold InH at h
  by_cases h3 : l.length < 3
  · rw [if_pos h3] at h
    obtain ⟨K, s, t, hK, hs, ht, e1, e2, e3⟩ := h
    exact ⟨0, l.length - 1, 0, by omega, by omega, by omega, K, s, t, 0, hK, hs, ht, by omega, by omega, by omega, by omega⟩
  · rw [if_neg h3] at h
    have hc := hl.conv (by omega)
    have g : ∃ k, 1 ≤ k ∧ k + 1 < l.length ∧ 0 ≤ hturn (nth l 0) (nth l k) X Y W ∧ hturn (nth l 0) (nth l (k + 1)) X Y W ≤ 0 := by
      have f1 : 0 ≤ hturn (nth l 0) (nth l 1) X Y W := by have := h 0 (by omega); unfold sideP at this; rwa [Nat.mod_eq_of_lt (by omega)] at this
      have fn : hturn (nth l 0) (nth l (l.length - 1)) X Y W ≤ 0 := by
        have := h (l.length - 1) (by omega)
        unfold sideP at this
        rw [show l.length - 1 + 1 = l.length by omega, Nat.mod_self] at this
        have this' : 0 ≤ hturn (nth l (l.length - 1)) (nth l 0) X Y W := this
        have e : hturn (nth l 0) (nth l (l.length - 1)) X Y W = -hturn (nth l (l.length - 1)) (nth l 0) X Y W := by unfold hturn; grind
        omega
      have step : ∀ d k, 1 ≤ k → k + d = l.length - 1 → 0 ≤ hturn (nth l 0) (nth l k) X Y W → (k < l.length - 1) → ∃ k, 1 ≤ k ∧ k + 1 < l.length ∧ 0 ≤ hturn (nth l 0) (nth l k) X Y W ∧ hturn (nth l 0) (nth l (k + 1)) X Y W ≤ 0 := fun d => by
        induction d with
        | zero => intro k h1 h2 h4 h5; omega
        | succ d ih =>
          intro k h1 h2 h4 h5
          rcases Int.lt_or_le 0 (hturn (nth l 0) (nth l (k + 1)) X Y W) with h' | h'
          · by_cases e : k + 1 = l.length - 1
            · rw [e] at h'; omega
            · exact ih (k + 1) (by omega) (by omega) (by omega) (by omega)
          · exact ⟨k, h1, by omega, h4, h'⟩
      exact step (l.length - 2) 1 (by omega) (by omega) f1 (by omega)
    obtain ⟨k, k1, k2, p, q⟩ := g
    have r := h k (by omega)
    unfold sideP at r
    rw [Nat.mod_eq_of_lt (by omega)] at r
    have T := hc.left k (by omega) 0 (by omega) (by omega) (by rw [Nat.mod_eq_of_lt (by omega)]; omega)
    rw [Nat.mod_eq_of_lt (by omega)] at T
    refine ⟨0, k, k + 1, by omega, by omega, by omega, turnP (nth l k) (nth l (k + 1)) (nth l 0), hturn (nth l k) (nth l (k + 1)) X Y W, -hturn (nth l 0) (nth l (k + 1)) X Y W, hturn (nth l 0) (nth l k) X Y W, T, r, by omega, p, ?_, ?_, ?_⟩
    all_goals generalize nth l 0 = a at *
    all_goals generalize nth l k = b at *
    all_goals generalize nth l (k + 1) = c at *
    · unfold turnP turnV hturn; grind
    · unfold turnP turnV hturn; grind
    · unfold turnP turnV hturn; grind
/-- a polygon whose corners another one has lies in it -/
theorem inH_within {l m : List Pt} (hl : GoValid l) (h : ∀ k, k < l.length → inside m (nth l k) = true) (hm : GoValid m) {X Y W : Int} (hx : InH l X Y W) : InH m X Y W := by
  obtain ⟨a, b, c, ha, hb, hc, K, r, s, t, hK, hr, hs, ht, e1, e2, e3⟩ := inH_corners hl hx
  have ia := inH_of_inside hm (h a ha)
  have ib := inH_of_inside hm (h b hb)
  have ic := inH_of_inside hm (h c hc)
  have i1 : InH m (r * (nth l a).x + s * (nth l b).x) (r * (nth l a).y + s * (nth l b).y) (r + s) := inH_mix (K := 1) (by omega) hr hs (by omega) (by omega) (by omega) ia ib
  exact inH_mix (s := 1) (t := t) hK (by omega) ht (by omega) (by omega) (by omega) i1 ic
end Go.Proofs.YtdkeiadpnnleoaaGreat

namespace Go.Proofs.YtdkeiadpnnleoaaGreat

def mvP (b x : Pt) : Pt := ⟨x.x + b.x, x.y + b.y⟩
def mvL (b : Pt) (l : List Pt) : List Pt := l.map (mvP b)
def mvS (b : Pt) (s : Pt × Pt) : Pt × Pt := (mvP b s.1, mvP b s.2)
theorem mvL_len (b : Pt) (l : List Pt) : (mvL b l).length = l.length := by simp [mvL]
theorem nth_mvL (b : Pt) {l : List Pt} {k : Nat} (h : k < l.length) : nth (mvL b l) k = mvP b (nth l k) := by
  simp [mvL, nth, List.getD_eq_getElem?_getD, List.getElem?_eq_getElem h]
theorem turn_mv (b p q r : Pt) : turnP (mvP b p) (mvP b q) (mvP b r) = turnP p q r := by unfold turnP turnV mvP; grind
theorem side_mv (b : Pt) {l : List Pt} {k : Nat} (h : k < l.length) : sideP (mvL b l) k = mvS b (sideP l k) := by
  unfold sideP mvS
  rw [mvL_len, nth_mvL b h, nth_mvL b (Nat.mod_lt _ (by omega))]

theorem place_iff {p : Pt} : placeP p = true ↔ -500000 ≤ p.x ∧ p.x ≤ 500000 ∧ -500000 ≤ p.y ∧ p.y ≤ 500000 := by simp [placeP, placeB]
theorem cmp_mv (b p q : Pt) : cmpP (mvP b p) (mvP b q) = cmpP p q := by
  have c : ∀ u v w : Int, cmpI (u + w) (v + w) = cmpI u v := fun u v w => by unfold cmpI; repeat' split
                                                                             all_goals omega
  simp only [cmpP, cmpV, mvP, c]
section
variable {b : Pt} {l m : List Pt} (hl : goValid l = true) (hm : goValid m = true) (hl' : goValid (mvL b l) = true) (hm' : goValid (mvL b m) = true)
include hl hm hl' hm'
end
end Go.Proofs.YtdkeiadpnnleoaaGreat

namespace Go.Proofs.YtdkeiadpnnleoaaGreat
open Go.RowKit
attribute [local irreducible] wpQuiet


/-- what a round of next sees: from, the result, to, and a point -/
def NS (n b o : Nat) (sx sy tx ty px py : Int) (w W : World) : Prop := b < n ∧ w.heap.size = n ∧ Has W n #[.int .i64 sx, .int .i64 sy] 36 ∧ Has W (n + 1) #[.int .i64 0, .int .i64 0] 36 ∧ Has W (n + 2) #[.int .i64 tx, .int .i64 ty] 36 ∧ Below n w W ∧ W.cell? ⟨b, o, none⟩ = some (.int .i64 px) ∧ W.cell? ⟨b, o + 1, none⟩ = some (.int .i64 py)
theorem NS.below {n b o : Nat} {sx sy tx ty px py : Int} {w W W' : World} (h : NS n b o sx sy tx ty px py w W) (hb : Below W.heap.size W W') : NS n b o sx sy tx ty px py w W' := by
  obtain ⟨h0, hn, h1, h2, h3, h4, h5, h6⟩ := h
  have l3 := h3.lt
  exact ⟨h0, hn, h1.below hb (by omega), h2.below hb (by omega), h3.below hb (by omega), h4.trans (hb.mono (by omega)), (hb.cell (p := ⟨b, o, none⟩) (by show b < _; omega)).trans h5, (hb.cell (p := ⟨b, o + 1, none⟩) (by show b < _; omega)).trans h6⟩




end Go.Proofs.YtdkeiadpnnleoaaGreat

namespace Go.Proofs.YtdkeiadpnnleoaaGreat
open Go.RowKit
attribute [local irreducible] wpQuiet

def lenOf : Value → Nat
  | .slice _ n _ => n
  | _ => 0
theorem Has.kept {W W' : World} {B : Nat} {cs : Array Value} {t : TypeId} {row : Option Nat} (h : Has W B cs t) (hg : W.grownBy W' row) (hne : row ≠ some B) : Has W' B cs t :=
  (hg.block B h.lt (fun e => hne e.symm)).trans h
theorem row_pos {W : World} {base k size : Nat} {e : TypeId} {v : Value} {xs : List Value} (h : W.ownsRow base e size v k xs) : lenOf v = k := by
  rcases h.2 with ⟨rfl, h0⟩ | ⟨g, cap, cur, rfl, _⟩
  · exact h0.symm
  · rfl

end Go.Proofs.YtdkeiadpnnleoaaGreat

namespace Go.Proofs.YtdkeiadpnnleoaaGreat
open Go.RowKit
attribute [local irreducible] wpQuiet

/-- what a round of Crossings sees: the corners of two sides, and the list so far -/
structure CS (A B : Nat) (ax ay bx by' : Int) (xs : List Pt) (out : Value) (w W : World) : Prop where
  hA : w.heap.size ≤ A ∧ A < W.heap.size
  hB : w.heap.size ≤ B ∧ B < W.heap.size
  nA : out.ownBlock ≠ some A
  nB : out.ownBlock ≠ some B
  gA : Has W A #[.int .i64 ax, .int .i64 ay] 36
  gB : Has W B #[.int .i64 bx, .int .i64 by'] 36
  row : W.ownsRow w.heap.size 36 2 out xs.length (ptCells xs)
  bel : Below w.heap.size w W
theorem CS.below {A B : Nat} {ax ay bx by' : Int} {xs : List Pt} {out : Value} {w W W' : World} (h : CS A B ax ay bx by' xs out w W) (hb : Below W.heap.size W W') : CS A B ax ay bx by' xs out w W' :=
  ⟨⟨h.hA.1, Nat.lt_of_lt_of_le h.hA.2 hb.size⟩, ⟨h.hB.1, Nat.lt_of_lt_of_le h.hB.2 hb.size⟩, h.nA, h.nB, h.gA.below hb h.hA.2, h.gB.below hb h.hB.2, prow_below h.row hb, h.bel.trans (hb.mono h.bel.size)⟩
theorem CS.app {A B : Nat} {ax ay bx by' : Int} {xs ys : List Pt} {out out' : Value} {w W W' : World} (h : CS A B ax ay bx by' xs out w W) (hr : W'.ownsRow w.heap.size 36 2 out' (xs.length + ys.length) (ptCells xs ++ ptCells ys)) (hg : W.grownBy W' out.ownBlock) (ho : out'.ownBlock = out.ownBlock ∨ out'.ownBlock = some W.heap.size) : CS A B ax ay bx by' (xs ++ ys) out' w W' := by
  have hz := hg.size
  refine ⟨⟨h.hA.1, by have := h.hA.2; omega⟩, ⟨h.hB.1, by have := h.hB.2; omega⟩, ?_, ?_, h.gA.kept hg h.nA, h.gB.kept hg h.nB, by rw [List.length_append, ptCells_append]; exact hr, h.bel.trans ((Below.refl w.heap.size W).grown hg h.bel.size fun j ej => (h.row.lt j ej).1)⟩
  · rcases ho with e | e
    · rw [e]; exact h.nA
    · rw [e]; intro e'; cases e'; exact absurd h.hA.2 (Nat.lt_irrefl _)
  · rcases ho with e | e
    · rw [e]; exact h.nB
    · rw [e]; intro e'; cases e'; exact absurd h.hB.2 (Nat.lt_irrefl _)
/-- the corners of the second side -/
structure DS (C D : Nat) (cx cy dx dy : Int) (W : World) : Prop where
  gC : Has W C #[.int .i64 cx, .int .i64 cy] 36
  gD : Has W D #[.int .i64 dx, .int .i64 dy] 36
theorem DS.below {C D : Nat} {cx cy dx dy : Int} {W W' : World} (h : DS C D cx cy dx dy W) (hb : Below W.heap.size W W') : DS C D cx cy dx dy W' := ⟨h.gC.below hb h.gC.lt, h.gD.below hb h.gD.lt⟩


end Go.Proofs.YtdkeiadpnnleoaaGreat

namespace Go.Proofs.YtdkeiadpnnleoaaGreat
open Go.RowKit
attribute [local irreducible] wpQuiet


theorem cornersTo_all {l m : List Pt} : ∀ k, (cornersTo l m k).length = k → ∀ j, j < k → hasB m (nth l j) = true
  | 0, _, j, hj => by omega
  | k + 1, h, j, hj => by
    have hl := cornersTo_len l m k
    simp only [cornersTo] at h
    split at h
    · rename_i hb
      simp only [List.length_append, List.length_singleton] at h
      by_cases e : j = k
      · rw [e]; exact hb
      · exact cornersTo_all k (by omega) j (by omega)
    · omega
end Go.Proofs.YtdkeiadpnnleoaaGreat

namespace Go.Proofs.YtdkeiadpnnleoaaGreat
open Go.RowKit
attribute [local irreducible] wpQuiet



/-- the result variable, and all that lay before -/
def RS (n : Nat) (w W : World) : Prop := Has W n #[.int .i64 0, .int .i64 0] 36 ∧ Below n w W
theorem RS.below {n : Nat} {w W W' : World} (h : RS n w W) (hb : Below W.heap.size W W') : RS n w W' :=
  ⟨h.1.below hb h.1.lt, h.2.trans (hb.mono (Nat.le_of_lt h.1.lt))⟩


end Go.Proofs.YtdkeiadpnnleoaaGreat

namespace Go.Proofs.YtdkeiadpnnleoaaGreat
open Go.RowKit
attribute [local irreducible] wpQuiet

theorem plus_any (p q : Pt) (w : World) (hp : placeP p = true) (hq : placeP q = true) :
    Calls Tryz.prog 148 #[.agg #[.int .i64 p.x, .int .i64 p.y], .agg #[.int .i64 q.x, .int .i64 q.y]] w fun e w' => e = .returned (.agg #[.int .i64 (mvP q p).x, .int .i64 (mvP q p).y]) ∧ Below w.heap.size w w' := by
  rw [place_iff] at hp hq
  obtain ⟨px, py⟩ := p
  obtain ⟨qx, qy⟩ := q
  simp only at hp hq
  show Calls _ _ _ _ fun e w' => e = .returned (.agg #[.int .i64 (px + qx), .int .i64 (py + qy)]) ∧ _
  have m1 : IntKind.i64.wrap (px + qx) = px + qx := IntWalk.i64_in _ (by omega)
  have m2 : IntKind.i64.wrap (py + qy) = py + qy := IntWalk.i64_in _ (by omega)
  clear hp hq
  go_enter Tryz.func148, Tryz.ntmps148
  go_wp2
  refine bodyPost_ret (v := .agg #[.int .i64 (px + qx), .int .i64 (py + qy)]) (by simp [results, Tryz.f148, go_sem]) rfl ⟨rfl, ?_⟩
  repeat (first | exact Below.refl _ _ | assumption | apply Below.drew | refine Below.setCell ?_ (by first | omega | (simp; done) | (simp; omega)) _ | refine Below.alloc ?_ (by first | omega | (simp; done) | (simp; omega)) _ | refine Below.call (by assumption) ?_ (by first | omega | (simp; done) | (simp; omega)))
theorem shift1_any (Bd : Nat) (x d : Pt) (w : World) (hx : placeP x = true) (hd : placeP d = true) (HD : Has w Bd #[.int .i64 d.x, .int .i64 d.y] 36) :
    Calls Tryz.prog 147 #[.agg #[.int .i64 x.x, .int .i64 x.y], .pointer (some ⟨Bd, 0, none⟩)] w fun e w' => e = .returned (.agg #[.int .i64 (mvP d x).x, .int .i64 (mvP d x).y]) ∧ Below w.heap.size w w' := by
  have f := Lib.hid (fun w1 => plus_any x d w1 hx hd)
  have hlt := HD.lt
  have c0 := HD.cell (i := 0) rfl
  have c1 := HD.cell (i := 1) rfl
  have H := Has.new (w.alloc (.cells #[.int .i64 x.x, .int .i64 x.y] 36)) #[.int .i64 0, .int .i64 0] 36
  rw [show (w.alloc (.cells #[.int .i64 x.x, .int .i64 x.y] 36)).heap.size = w.heap.size + 1 by simp] at H
  have H := Lib.hid H
  have B0 := Lib.hid (show Below w.heap.size w ((w.alloc (.cells #[.int .i64 x.x, .int .i64 x.y] 36)).alloc (.cells #[.int .i64 0, .int .i64 0] 36)) from ((Below.refl _ _).alloc (Nat.le_refl _) _).alloc (by first | omega | (simp; done) | (simp; omega)) _)
  generalize mvP d x = r at *
  clear HD hx hd
  go_enter Tryz.func147, Tryz.ntmps147
  go_wp2_with fail
  refine (f.out _).mono ?_
  rintro e w1 ⟨rfl, hb1⟩
  have H1 := H.out.below hb1 (by simp)
  have x0 := cells_cell H1 (i := 0) rfl
  have x1 := cells_cell H1 (i := 1) rfl
  have y0 := cells_free H1 0
  have y1 := cells_free H1 1
  have z0 := cells_cell (H1.set 0 (.int .i64 r.x)) (i := 0) rfl
  have z1 := cells_cell ((H1.set 0 (.int .i64 r.x)).set 1 (.int .i64 r.y)) (i := 1) rfl
  have B1 := Lib.hid (B0.out.trans (hb1.mono B0.out.size))
  clear hb1 H1 c0 c1
  go_wp2
  refine bodyPost_ret (v := .agg #[.int .i64 r.x, .int .i64 r.y]) (by simp [results, Tryz.f147, go_sem, z0, z1]) rfl ⟨rfl, ?_⟩
  exact (B1.out.setCell (p := ⟨w.heap.size + 1, 0, none⟩) (by simp) _).setCell (p := ⟨w.heap.size + 1, 1, none⟩) (by simp) _
theorem mvL_take2 (d : Pt) (l : List Pt) {k : Nat} (h : k < l.length) : mvL d (l.take (k + 1)) = mvL d (l.take k) ++ [mvP d (nth l k)] := by
  have e : nth l k = l[k] := by simp [nth, List.getD_eq_getElem?_getD, List.getElem?_eq_getElem h]
  unfold mvL
  rw [List.take_add_one, List.getElem?_eq_getElem h, List.map_append, e]
  rfl
set_option maxRecDepth 8000 in
set_option maxHeartbeats 1600000 in
theorem each_any (v : Value) (l : List Pt) (Bd : Nat) (d : Pt) (w : World) (hp : PtsAt w.heap.size w v l) (HD : Has w Bd #[.int .i64 d.x, .int .i64 d.y] 36) (hs : l.length ≤ 64) (hpl : ∀ k, k < l.length → placeP (nth l k) = true) (hd : placeP d = true) :
    Calls Tryz.prog 146 #[v, .func (.func 147) #[] #[.pointer (some ⟨Bd, 0, none⟩)]] w (PtsQ (mvL d l) w) := by
  obtain ⟨hll, a, cap, rfl, hc⟩ := hp
  have HC := Lib.hid hc
  have HPL := Lib.hid hpl
  have HDD := Lib.hid HD
  have HDP := Lib.hid hd
  obtain ⟨i0, hi, hz0', hz1', hz2'⟩ := info_parts ptInfo
  clear hc hpl hd HD
  go_enter Tryz.func146, Tryz.ntmps146
  go_wp2
  go_loopw [5, 10] (fun v i wr => ∃ k : Nat, k ≤ l.length ∧ i = .int .i64 (k : Int) ∧ wr.ownsRow w.heap.size 36 2 v k (ptCells (mvL d (l.take k))) ∧ Below w.heap.size w wr) (fun _ i _ => l.length - (intOf i).toNat)
  case atStart => exact ⟨0, by omega, rfl, World.ownsRow_nil _ _ _ _, Below.refl _ _⟩
  case round =>
    obtain ⟨k, hk, rfl, hrow, hB⟩ := hrel
    have hzB := hB.size
    by_cases hlt : k < l.length
    · obtain ⟨b, o, rfl, hb, hcc⟩ : ∃ b o, a = some ⟨b, o, none⟩ ∧ b < w.heap.size ∧ ∀ j, j < l.length → w.cell? ⟨b, o + j * 2, none⟩ = some (.int .i64 (nth l j).x) ∧ w.cell? ⟨b, o + j * 2 + 1, none⟩ = some (.int .i64 (nth l j).y) := by
        rcases HC.out with h | h
        · rw [h] at hlt; simp at hlt
        · exact h
      obtain ⟨q0, q1⟩ := hcc k hlt
      have c0 := (hB.cell (p := ⟨b, o + k * 2, none⟩) hb).trans q0
      have c1 := (hB.cell (p := ⟨b, o + k * 2 + 1, none⟩) hb).trans q1
      have hst := Lib.hid (mvL_take2 d l hlt)
      have f := Lib.hid (fun w1 (B : Below w.heap.size w w1) => shift1_any Bd (nth l k) d w1 (HPL.out k hlt) HDP.out (HDD.out.below B HDD.out.lt))
      generalize mvP d (nth l k) = r at *
      generalize (nth l k).x = px at *
      generalize (nth l k).y = py at *
      have kl : (k : Int) < l.length := by omega
      have k0 : (0 : Int) ≤ k := by omega
      have dk : decide ((k : Int) < (l.length : Int)) = true := by simp; omega
      have HR := Lib.hid hrow
      have HB := Lib.hid hB
      have BA := Lib.hid (show Below wr.heap.size wr (wr.alloc (.cells #[.int .i64 px, .int .i64 py] 36)) from (Below.refl _ _).alloc (Nat.le_refl _) _)
      clear hcc q0 q1 hrow hB
      go_wp2_with fail
      refine (f.out _ (HB.out.trans (BA.out.mono HB.out.size))).mono ?_
      rintro e w2 ⟨rfl, b2⟩
      have B2 := Lib.hid (BA.out.trans (b2.mono BA.out.size))
      have R2 := Lib.hid (prow_below HR.out B2.out)
      have z2 := B2.out.size
      clear b2
      go_wp2_with (at_builtin; refine wpList_append_own _ rfl _ _ 23 rfl w.heap.size 36 i0 (.agg #[.int .i64 0, .int .i64 0]) 2 16 Tryz.underlying23 hi hz0' hz1' hz2' rfl (by decide) _ _ _ rfl (R2.out.alloc _) ⟨w2.heap.size, 0, none⟩ 1 1 [.int .i64 r.x, .int .i64 r.y] rfl rfl (pt_new _ _ _) (by simp [Value.oneCell']) (by unfold maxLen; omega) (by omega) (by simp; omega) ?_; intro v' w4 hown' hgrow _)
      go_roundw
      case rel =>
        have A2 := (Below.refl w2.heap.size w2).alloc (Nat.le_refl _) (.cells #[.int .i64 r.x, .int .i64 r.y] 36)
        have b4 : Below w.heap.size w w4 := (HB.out.trans ((B2.out.trans (A2.mono z2)).mono hzB)).grown hgrow (by simp; omega) (fun j ej => (R2.out.lt j ej).1)
        refine ⟨k + 1, by omega, by go_num, ?_, b4⟩
        rw [hst.out, ptCells_append]
        exact hown'
      case measure => simp [intOf]; omega
    · obtain rfl : k = l.length := by omega
      have dk : decide ((l.length : Int) < (l.length : Int)) = false := by simp
      rw [List.take_length] at hrow
      have P := Lib.hid (PtsAt.own hrow (by rw [mvL_len]; omega))
      have HB := Lib.hid hB
      clear hrow hB
      go_wp2
      go_ret
      exact ⟨_, rfl, P.out, HB.out⟩
end Go.Proofs.YtdkeiadpnnleoaaGreat
