/- landfallref04's Crossings. (Printed by tools/mkrcross.py.) | landfallref04's Corners and Lies. | landfallref04's Common; landfallref33's First and Hit. (Printed by tools/mkrrocks.py.) | package mink: plus, the function that Shift hands to each, each. -/
import Derived.Test.YtfbdidfaeplllaaGreatBin19
import Derived.Test.YtfbdidfaeplllaaGreatBin21
import Derived.Test.YtfbdidfaeplllaaGreatBin20
import Derived.Test.YtfbdidfaeplllaaGreatBin06
namespace Go.Proofs.YtfbdidfaeplllaaGreat
open Go.RowKit
attribute [local irreducible] wpQuiet

/-- what a round of Crossings sees: the corners of two sides, and the list so far -/
structure CS (A B : Nat) (ax ay bx by' : Int) (xs : List Pt) (out : Value) (w W : World) : Prop where
  hA : w.heap.size ≤ A ∧ A < W.heap.size
  hB : w.heap.size ≤ B ∧ B < W.heap.size
  nA : out.ownBlock ≠ some A
  nB : out.ownBlock ≠ some B
  gA : Has W A #[.int .i64 ax, .int .i64 ay] 31
  gB : Has W B #[.int .i64 bx, .int .i64 by'] 31
  row : W.ownsRow w.heap.size 31 2 out xs.length (ptCells xs)
  bel : Below w.heap.size w W
theorem CS.below {A B : Nat} {ax ay bx by' : Int} {xs : List Pt} {out : Value} {w W W' : World} (h : CS A B ax ay bx by' xs out w W) (hb : Below W.heap.size W W') : CS A B ax ay bx by' xs out w W' :=
  ⟨⟨h.hA.1, Nat.lt_of_lt_of_le h.hA.2 hb.size⟩, ⟨h.hB.1, Nat.lt_of_lt_of_le h.hB.2 hb.size⟩, h.nA, h.nB, h.gA.below hb h.hA.2, h.gB.below hb h.hB.2, prow_below h.row hb, h.bel.trans (hb.mono h.bel.size)⟩
/-- the corners of the second side -/
structure DS (C D : Nat) (cx cy dx dy : Int) (W : World) : Prop where
  gC : Has W C #[.int .i64 cx, .int .i64 cy] 31
  gD : Has W D #[.int .i64 dx, .int .i64 dy] 31
theorem DS.below {C D : Nat} {cx cy dx dy : Int} {W W' : World} (h : DS C D cx cy dx dy W) (hb : Below W.heap.size W W') : DS C D cx cy dx dy W' := ⟨h.gC.below hb h.gC.lt, h.gD.below hb h.gD.lt⟩


end Go.Proofs.YtfbdidfaeplllaaGreat

namespace Go.Proofs.YtfbdidfaeplllaaGreat
open Go.RowKit
attribute [local irreducible] wpQuiet


theorem cornersTo_all {l m : List Pt} : ∀ k, (cornersTo l m k).length = k → ∀ j, j < k → hasB m (nth l j) = true
  | 0, _, j, hj => by omega
  | k + 1, h, j, hj => by
    have hl := cornersTo_len l m k
    simp only [cornersTo] at h
    split at h
    · rename_i hb
      simp only [List.length_append, List.length_singleton] at h
      by_cases e : j = k
      · rw [e]; exact hb
      · exact cornersTo_all k (by omega) j (by omega)
    · omega
end Go.Proofs.YtfbdidfaeplllaaGreat

namespace Go.Proofs.YtfbdidfaeplllaaGreat
open Go.RowKit
attribute [local irreducible] wpQuiet



/-- the result variable, and all that lay before -/
def RS (n : Nat) (w W : World) : Prop := Has W n #[.int .i64 0, .int .i64 0] 31 ∧ Below n w W
theorem RS.below {n : Nat} {w W W' : World} (h : RS n w W) (hb : Below W.heap.size W W') : RS n w W' :=
  ⟨h.1.below hb h.1.lt, h.2.trans (hb.mono (Nat.le_of_lt h.1.lt))⟩


end Go.Proofs.YtfbdidfaeplllaaGreat

namespace Go.Proofs.YtfbdidfaeplllaaGreat
open Go.RowKit
attribute [local irreducible] wpQuiet

theorem plus_any (p q : Pt) (w : World) (hp : placeP p = true) (hq : placeP q = true) :
    Calls Tryz.prog 130 #[.agg #[.int .i64 p.x, .int .i64 p.y], .agg #[.int .i64 q.x, .int .i64 q.y]] w fun e w' => e = .returned (.agg #[.int .i64 (mvP q p).x, .int .i64 (mvP q p).y]) ∧ Below w.heap.size w w' := by
  rw [place_iff] at hp hq
  obtain ⟨px, py⟩ := p
  obtain ⟨qx, qy⟩ := q
  simp only at hp hq
  show Calls _ _ _ _ fun e w' => e = .returned (.agg #[.int .i64 (px + qx), .int .i64 (py + qy)]) ∧ _
  have m1 : IntKind.i64.wrap (px + qx) = px + qx := IntWalk.i64_in _ (by omega)
  have m2 : IntKind.i64.wrap (py + qy) = py + qy := IntWalk.i64_in _ (by omega)
  clear hp hq
  go_enter Tryz.func130, Tryz.ntmps130
  go_wp2
  refine bodyPost_ret (v := .agg #[.int .i64 (px + qx), .int .i64 (py + qy)]) (by simp [results, Tryz.f130, go_sem]) rfl ⟨rfl, ?_⟩
  repeat (first | exact Below.refl _ _ | assumption | apply Below.drew | refine Below.setCell ?_ (by first | omega | (simp; done) | (simp; omega)) _ | refine Below.alloc ?_ (by first | omega | (simp; done) | (simp; omega)) _ | refine Below.call (by assumption) ?_ (by first | omega | (simp; done) | (simp; omega)))
theorem shift1_any (Bd : Nat) (x d : Pt) (w : World) (hx : placeP x = true) (hd : placeP d = true) (HD : Has w Bd #[.int .i64 d.x, .int .i64 d.y] 31) :
    Calls Tryz.prog 129 #[.agg #[.int .i64 x.x, .int .i64 x.y], .pointer (some ⟨Bd, 0, none⟩)] w fun e w' => e = .returned (.agg #[.int .i64 (mvP d x).x, .int .i64 (mvP d x).y]) ∧ Below w.heap.size w w' := by
  have f := Lib.hid (fun w1 => plus_any x d w1 hx hd)
  have hlt := HD.lt
  have c0 := HD.cell (i := 0) rfl
  have c1 := HD.cell (i := 1) rfl
  have H := Has.new (w.alloc (.cells #[.int .i64 x.x, .int .i64 x.y] 31)) #[.int .i64 0, .int .i64 0] 31
  rw [show (w.alloc (.cells #[.int .i64 x.x, .int .i64 x.y] 31)).heap.size = w.heap.size + 1 by simp] at H
  have H := Lib.hid H
  have B0 := Lib.hid (show Below w.heap.size w ((w.alloc (.cells #[.int .i64 x.x, .int .i64 x.y] 31)).alloc (.cells #[.int .i64 0, .int .i64 0] 31)) from ((Below.refl _ _).alloc (Nat.le_refl _) _).alloc (by first | omega | (simp; done) | (simp; omega)) _)
  generalize mvP d x = r at *
  clear HD hx hd
  go_enter Tryz.func129, Tryz.ntmps129
  go_wp2_with fail
  refine (f.out _).mono ?_
  rintro e w1 ⟨rfl, hb1⟩
  have H1 := H.out.below hb1 (by simp)
  have x0 := cells_cell H1 (i := 0) rfl
  have x1 := cells_cell H1 (i := 1) rfl
  have y0 := cells_free H1 0
  have y1 := cells_free H1 1
  have z0 := cells_cell (H1.set 0 (.int .i64 r.x)) (i := 0) rfl
  have z1 := cells_cell ((H1.set 0 (.int .i64 r.x)).set 1 (.int .i64 r.y)) (i := 1) rfl
  have B1 := Lib.hid (B0.out.trans (hb1.mono B0.out.size))
  clear hb1 H1 c0 c1
  go_wp2
  refine bodyPost_ret (v := .agg #[.int .i64 r.x, .int .i64 r.y]) (by simp [results, Tryz.f129, go_sem, z0, z1]) rfl ⟨rfl, ?_⟩
  exact (B1.out.setCell (p := ⟨w.heap.size + 1, 0, none⟩) (by simp) _).setCell (p := ⟨w.heap.size + 1, 1, none⟩) (by simp) _
theorem mvL_take2 (d : Pt) (l : List Pt) {k : Nat} (h : k < l.length) : mvL d (l.take (k + 1)) = mvL d (l.take k) ++ [mvP d (nth l k)] := by
  have e : nth l k = l[k] := by simp [nth, List.getD_eq_getElem?_getD, List.getElem?_eq_getElem h]
  unfold mvL
  rw [List.take_add_one, List.getElem?_eq_getElem h, List.map_append, e]
  rfl
set_option maxRecDepth 8000 in
set_option maxHeartbeats 1600000 in
theorem each_any (v : Value) (l : List Pt) (Bd : Nat) (d : Pt) (w : World) (hp : PtsAt w.heap.size w v l) (HD : Has w Bd #[.int .i64 d.x, .int .i64 d.y] 31) (hs : l.length ≤ 64) (hpl : ∀ k, k < l.length → placeP (nth l k) = true) (hd : placeP d = true) :
    Calls Tryz.prog 128 #[v, .func (.func 129) #[] #[.pointer (some ⟨Bd, 0, none⟩)]] w (PtsQ (mvL d l) w) := by
  obtain ⟨hll, a, cap, rfl, hc⟩ := hp
  have HC := Lib.hid hc
  have HPL := Lib.hid hpl
  have HDD := Lib.hid HD
  have HDP := Lib.hid hd
  obtain ⟨i0, hi, hz0', hz1', hz2'⟩ := info_parts ptInfo
  clear hc hpl hd HD
  go_enter Tryz.func128, Tryz.ntmps128
  go_wp2
  go_loopw [5, 10] (fun v i wr => ∃ k : Nat, k ≤ l.length ∧ i = .int .i64 (k : Int) ∧ wr.ownsRow w.heap.size 31 2 v k (ptCells (mvL d (l.take k))) ∧ Below w.heap.size w wr) (fun _ i _ => l.length - (intOf i).toNat)
  case atStart => exact ⟨0, by omega, rfl, World.ownsRow_nil _ _ _ _, Below.refl _ _⟩
  case round =>
    obtain ⟨k, hk, rfl, hrow, hB⟩ := hrel
    have hzB := hB.size
    by_cases hlt : k < l.length
    · obtain ⟨b, o, rfl, hb, hcc⟩ : ∃ b o, a = some ⟨b, o, none⟩ ∧ b < w.heap.size ∧ ∀ j, j < l.length → w.cell? ⟨b, o + j * 2, none⟩ = some (.int .i64 (nth l j).x) ∧ w.cell? ⟨b, o + j * 2 + 1, none⟩ = some (.int .i64 (nth l j).y) := by
        rcases HC.out with h | h
        · rw [h] at hlt; simp at hlt
        · exact h
      obtain ⟨q0, q1⟩ := hcc k hlt
      have c0 := (hB.cell (p := ⟨b, o + k * 2, none⟩) hb).trans q0
      have c1 := (hB.cell (p := ⟨b, o + k * 2 + 1, none⟩) hb).trans q1
      have hst := Lib.hid (mvL_take2 d l hlt)
      have f := Lib.hid (fun w1 (B : Below w.heap.size w w1) => shift1_any Bd (nth l k) d w1 (HPL.out k hlt) HDP.out (HDD.out.below B HDD.out.lt))
      generalize mvP d (nth l k) = r at *
      generalize (nth l k).x = px at *
      generalize (nth l k).y = py at *
      have kl : (k : Int) < l.length := by omega
      have k0 : (0 : Int) ≤ k := by omega
      have dk : decide ((k : Int) < (l.length : Int)) = true := by simp; omega
      have HR := Lib.hid hrow
      have HB := Lib.hid hB
      have BA := Lib.hid (show Below wr.heap.size wr (wr.alloc (.cells #[.int .i64 px, .int .i64 py] 31)) from (Below.refl _ _).alloc (Nat.le_refl _) _)
      clear hcc q0 q1 hrow hB
      go_wp2_with fail
      refine (f.out _ (HB.out.trans (BA.out.mono HB.out.size))).mono ?_
      rintro e w2 ⟨rfl, b2⟩
      have B2 := Lib.hid (BA.out.trans (b2.mono BA.out.size))
      have R2 := Lib.hid (prow_below HR.out B2.out)
      have z2 := B2.out.size
      clear b2
      go_wp2_with (at_builtin; refine wpList_append_own _ rfl _ _ 23 rfl w.heap.size 31 i0 (.agg #[.int .i64 0, .int .i64 0]) 2 16 Tryz.underlying23 hi hz0' hz1' hz2' rfl (by decide) _ _ _ rfl (R2.out.alloc _) ⟨w2.heap.size, 0, none⟩ 1 1 [.int .i64 r.x, .int .i64 r.y] rfl rfl (pt_new _ _ _) (by simp [Value.oneCell']) (by unfold maxLen; omega) (by omega) (by simp; omega) ?_; intro v' w4 hown' hgrow _)
      go_roundw
      case rel =>
        have A2 := (Below.refl w2.heap.size w2).alloc (Nat.le_refl _) (.cells #[.int .i64 r.x, .int .i64 r.y] 31)
        have b4 : Below w.heap.size w w4 := (HB.out.trans ((B2.out.trans (A2.mono z2)).mono hzB)).grown hgrow (by simp; omega) (fun j ej => (R2.out.lt j ej).1)
        refine ⟨k + 1, by omega, by go_num, ?_, b4⟩
        rw [hst.out, ptCells_append]
        exact hown'
      case measure => simp [intOf]; omega
    · obtain rfl : k = l.length := by omega
      have dk : decide ((l.length : Int) < (l.length : Int)) = false := by simp
      rw [List.take_length] at hrow
      have P := Lib.hid (PtsAt.own hrow (by rw [mvL_len]; omega))
      have HB := Lib.hid hB
      clear hrow hB
      go_wp2
      go_ret
      exact ⟨_, rfl, P.out, HB.out⟩
end Go.Proofs.YtfbdidfaeplllaaGreat
