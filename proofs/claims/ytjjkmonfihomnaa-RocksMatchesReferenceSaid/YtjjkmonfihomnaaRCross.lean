/- landfallref04's Crossings. (Printed by tools/mkrcross.py.) -/
import Derived.Test.YtjjkmonfihomnaaRFrame
import Derived.Test.YtjjkmonfihomnaaCross
import Derived.Test.YtjjkmonfihomnaaAround
import Derived.Test.YtjjkmonfihomnaaShift
namespace Go.Proofs.Ytjjkmonfihomnaa
open Go.RowKit
attribute [local irreducible] wpQuiet

def crossR (S T : Pt × Pt) : List Pt := if (crossB (turnP S.1 S.2 T.1) (turnP S.1 S.2 T.2) && crossB (turnP T.1 T.2 S.1) (turnP T.1 T.2 S.2)) = true then frameR T.1 T.2 (turnP S.1 S.2 T.1) (turnP S.1 S.2 T.2) else []
theorem mem_crossR {S T : Pt × Pt} {x : Pt} : x ∈ crossR S T ↔ x ∈ crossST S T := by
  unfold crossR crossST
  split
  · exact mem_frameR
  · exact Iff.rfl
theorem crossR_len (S T : Pt × Pt) : (crossR S T).length ≤ 4 := by unfold crossR; split <;> simp [frameR]
def rowTo (S : Pt × Pt) (m : List Pt) (j : Nat) : List Pt := (upto (sideP m) j).flatMap (crossR S)
def outTo (l m : List Pt) (i : Nat) : List Pt := (upto (sideP l) i).flatMap fun S => rowTo S m m.length
def crossPR (l m : List Pt) : List Pt := outTo l m l.length
theorem rowTo_succ (S : Pt × Pt) (m : List Pt) (j : Nat) : rowTo S m (j + 1) = rowTo S m j ++ crossR S (sideP m j) := by simp [rowTo, upto_succ]
theorem outTo_succ (l m : List Pt) (i : Nat) : outTo l m (i + 1) = outTo l m i ++ rowTo (sideP l i) m m.length := by simp [outTo, upto_succ]
theorem rowTo_len (S : Pt × Pt) (m : List Pt) : ∀ j, (rowTo S m j).length ≤ 4 * j
  | 0 => by simp [rowTo, upto]
  | j + 1 => by
    rw [rowTo_succ, List.length_append]
    have := rowTo_len S m j
    have := crossR_len S (sideP m j)
    omega
theorem outTo_len (l m : List Pt) : ∀ i, (outTo l m i).length ≤ 4 * m.length * i
  | 0 => by simp [outTo, upto]
  | i + 1 => by
    rw [outTo_succ, List.length_append, Nat.mul_succ]
    have := outTo_len l m i
    have := rowTo_len (sideP l i) m m.length
    omega
theorem mem_crossPR {l m : List Pt} {x : Pt} : x ∈ crossPR l m ↔ x ∈ crossP l m := by
  unfold crossPR outTo crossP crossL rowS sidesL rowTo
  simp only [List.mem_flatMap, mem_crossR]
/-- what a round of Crossings sees: the corners of two sides, and the list so far -/
structure CS (A B : Nat) (ax ay bx by' : Int) (xs : List Pt) (out : Value) (w W : World) : Prop where
  hA : w.heap.size ≤ A ∧ A < W.heap.size
  hB : w.heap.size ≤ B ∧ B < W.heap.size
  nA : out.ownBlock ≠ some A
  nB : out.ownBlock ≠ some B
  gA : Has W A #[.int .i64 ax, .int .i64 ay] 31
  gB : Has W B #[.int .i64 bx, .int .i64 by'] 31
  row : W.ownsRow w.heap.size 31 2 out xs.length (ptCells xs)
  bel : Below w.heap.size w W
theorem CS.below {A B : Nat} {ax ay bx by' : Int} {xs : List Pt} {out : Value} {w W W' : World} (h : CS A B ax ay bx by' xs out w W) (hb : Below W.heap.size W W') : CS A B ax ay bx by' xs out w W' :=
  ⟨⟨h.hA.1, Nat.lt_of_lt_of_le h.hA.2 hb.size⟩, ⟨h.hB.1, Nat.lt_of_lt_of_le h.hB.2 hb.size⟩, h.nA, h.nB, h.gA.below hb h.hA.2, h.gB.below hb h.hB.2, prow_below h.row hb, h.bel.trans (hb.mono h.bel.size)⟩
theorem CS.app {A B : Nat} {ax ay bx by' : Int} {xs ys : List Pt} {out out' : Value} {w W W' : World} (h : CS A B ax ay bx by' xs out w W) (hr : W'.ownsRow w.heap.size 31 2 out' (xs.length + ys.length) (ptCells xs ++ ptCells ys)) (hg : W.grownBy W' out.ownBlock) (ho : out'.ownBlock = out.ownBlock ∨ out'.ownBlock = some W.heap.size) : CS A B ax ay bx by' (xs ++ ys) out' w W' := by
  have hz := hg.size
  refine ⟨⟨h.hA.1, by have := h.hA.2; omega⟩, ⟨h.hB.1, by have := h.hB.2; omega⟩, ?_, ?_, h.gA.kept hg h.nA, h.gB.kept hg h.nB, by rw [List.length_append, ptCells_append]; exact hr, h.bel.trans ((Below.refl w.heap.size W).grown hg h.bel.size fun j ej => (h.row.lt j ej).1)⟩
  · rcases ho with e | e
    · rw [e]; exact h.nA
    · rw [e]; intro e'; cases e'; exact absurd h.hA.2 (Nat.lt_irrefl _)
  · rcases ho with e | e
    · rw [e]; exact h.nB
    · rw [e]; intro e'; cases e'; exact absurd h.hB.2 (Nat.lt_irrefl _)
/-- the corners of the second side -/
structure DS (C D : Nat) (cx cy dx dy : Int) (W : World) : Prop where
  gC : Has W C #[.int .i64 cx, .int .i64 cy] 31
  gD : Has W D #[.int .i64 dx, .int .i64 dy] 31
theorem DS.below {C D : Nat} {cx cy dx dy : Int} {W W' : World} (h : DS C D cx cy dx dy W) (hb : Below W.heap.size W W') : DS C D cx cy dx dy W' := ⟨h.gC.below hb h.gC.lt, h.gD.below hb h.gD.lt⟩
theorem two_has (W : World) (ax ay bx by' : Int) : Has ((W.alloc (.cells #[.int .i64 ax, .int .i64 ay] 31)).alloc (.cells #[.int .i64 bx, .int .i64 by'] 31)) W.heap.size #[.int .i64 ax, .int .i64 ay] 31 ∧ Has ((W.alloc (.cells #[.int .i64 ax, .int .i64 ay] 31)).alloc (.cells #[.int .i64 bx, .int .i64 by'] 31)) (W.heap.size + 1) #[.int .i64 bx, .int .i64 by'] 31 ∧ Below W.heap.size W ((W.alloc (.cells #[.int .i64 ax, .int .i64 ay] 31)).alloc (.cells #[.int .i64 bx, .int .i64 by'] 31)) ∧ ((W.alloc (.cells #[.int .i64 ax, .int .i64 ay] 31)).alloc (.cells #[.int .i64 bx, .int .i64 by'] 31)).heap.size = W.heap.size + 2 := by
  refine ⟨(Has.new W #[.int .i64 ax, .int .i64 ay] 31).below ((Below.refl (W.heap.size + 1) _).alloc (by simp) (.cells #[.int .i64 bx, .int .i64 by'] 31)) (by omega), ?_, ((Below.refl W.heap.size W).alloc (Nat.le_refl _) _).alloc (by simp) _, by simp⟩
  have := Has.new (W.alloc (.cells #[.int .i64 ax, .int .i64 ay] 31)) #[.int .i64 bx, .int .i64 by'] 31
  rwa [World.size_alloc] at this
theorem mod_next {k n : Nat} (hk : k < n) (hn : n ≤ 70368744177663) : ∃ m : Nat, m < n ∧ (k + 1) % n = m ∧ IntKind.i64.wrap ((k : Int) + 1) = (k : Int) + 1 ∧ ((k : Int) + 1).tmod (n : Int) = (m : Int) := by
  refine ⟨(k + 1) % n, Nat.mod_lt _ (by omega), rfl, IntWalk.i64_in _ (by omega), ?_⟩
  rw [Int.tmod_eq_emod_of_nonneg (by omega)]; rfl


set_option linter.unusedSimpArgs false in
set_option linter.unusedVariables false in
set_option maxRecDepth 8000 in
set_option maxHeartbeats 6000000 in
theorem rcrossings_any (vp vq : Value) (l m : List Pt) (w : World) (hp : PtsAt w.heap.size w vp l) (hq : PtsAt w.heap.size w vq m) (hl : goValid l = true) (hm : goValid m = true) :
    Calls Try.prog 71 #[vp, vq] w (PtsQ (crossPR l m) w) := by
  have GL := goValid_true hl
  have GM := goValid_true hm
  have l1 := GL.1; have l64 := GL.2.1
  have m1 := GM.1; have m64 := GM.2.1
  have PL := Lib.hid (fun k hk => placeB_true (GL.2.2.1 k hk).1)
  have PM := Lib.hid (fun k hk => placeB_true (GM.2.2.1 k hk).1)
  obtain ⟨hll, a, cap, rfl, hc⟩ := hp
  obtain ⟨b, o, rfl, hb, hc⟩ := hc.resolve_left (by intro h; rw [h] at l1; simp at l1)
  obtain ⟨hlm, a2, cap2, rfl, hc2⟩ := hq
  obtain ⟨b2, o2, rfl, hb2, hc2⟩ := hc2.resolve_left (by intro h; rw [h] at m1; simp at m1)
  have HC := Lib.hid hc
  have HC2 := Lib.hid hc2
  have nel : ¬ l = [] := by intro h; rw [h] at l1; simp at l1
  have nem : ¬ m = [] := by intro h; rw [h] at m1; simp at m1
  obtain ⟨i0, hi, hz0', hz1', hz2'⟩ := info_parts ptInfo
  clear hc hc2 hl hm GL GM
  go_enter Try.func71, Try.ntmps71
  go_wp2
  go_loopw [5, 6] (fun out i wr => ∃ k : Nat, k ≤ l.length ∧ i = .int .i64 (k : Int) ∧ wr.ownsRow w.heap.size 31 2 out (outTo l m k).length (ptCells (outTo l m k)) ∧ Below w.heap.size w wr) (fun _ i _ => l.length - (intOf i).toNat)
  case atStart => exact ⟨0, by omega, rfl, World.ownsRow_nil _ _ _ _, Below.refl _ _⟩
  case round =>
    rename World => wo
    obtain ⟨i, hik, rfl, hrow, hB⟩ := hrel
    have hzB := hB.size
    by_cases hlt : i < l.length
    · obtain ⟨mi, hmi, hme, mw, mt⟩ := mod_next hlt hll
      have pa := PL.out i hlt
      have pb := PL.out mi hmi
      have hsd : sideP l i = (nth l i, nth l mi) := by unfold sideP; rw [hme]
      have hos := outTo_succ l m i
      rw [hsd] at hos
      obtain ⟨q0, q1⟩ := HC.out i hlt
      obtain ⟨q2, q3⟩ := HC.out mi hmi
      have e0 := (hB.cell (p := ⟨b, o + i * 2, none⟩) hb).trans q0
      have e1 := (hB.cell (p := ⟨b, o + i * 2 + 1, none⟩) hb).trans q1
      obtain ⟨⟨ax, ay⟩, hea⟩ : ∃ t, nth l i = t := ⟨_, rfl⟩
      obtain ⟨⟨bx, by'⟩, heb⟩ : ∃ t, nth l mi = t := ⟨_, rfl⟩
      rw [hea] at e0 e1 pa hos
      rw [heb] at q2 q3 pb hos
      simp only at e0 e1 q2 q3 pa pb
      have hBa := hB.alloc hzB (.cells #[.int .i64 ax, .int .i64 ay] 31)
      have e2 := (hBa.cell (p := ⟨b, o + mi * 2, none⟩) hb).trans q2
      have e3 := (hBa.cell (p := ⟨b, o + mi * 2 + 1, none⟩) hb).trans q3
      have h2 := two_has wo ax ay bx by'
      have hos' := Lib.hid hos
      obtain ⟨xs, hxs⟩ : ∃ xs, outTo l m i = xs := ⟨_, rfl⟩
      have hxl := outTo_len l m i
      rw [hxs] at hrow hos' hxl
      have hlt4 : 4 * m.length * i ≤ 4 * 64 * 64 := Nat.mul_le_mul (Nat.mul_le_mul (Nat.le_refl 4) m64) (by omega)
      have HS0 : Hid (CS wo.heap.size (wo.heap.size + 1) ax ay bx by' (xs ++ rowTo (⟨ax, ay⟩, ⟨bx, by'⟩) m 0) u5 w ((wo.alloc (.cells #[.int .i64 ax, .int .i64 ay] 31)).alloc (.cells #[.int .i64 bx, .int .i64 by'] 31))) := by
        have e : rowTo (⟨ax, ay⟩, ⟨bx, by'⟩) m 0 = [] := rfl
        rw [e, List.append_nil]
        exact ⟨⟨hzB, by rw [h2.2.2.2]; omega⟩, ⟨by omega, by rw [h2.2.2.2]; omega⟩, fun e => by have := (hrow.lt _ e).2; omega, fun e => by have := (hrow.lt _ e).2; omega, h2.1, h2.2.1, prow_below hrow h2.2.2.1, hB.trans (h2.2.2.1.mono hzB)⟩
      have ki : (i : Int) < l.length := by omega
      have k0 : (0 : Int) ≤ i := by omega
      have kmi : (mi : Int) < l.length := by omega
      have kmi0 : (0 : Int) ≤ mi := by omega
      have di : decide ((i : Int) < (l.length : Int)) = true := by simp; omega
      clear q0 q1 q2 q3 hea heb hsd hos hme hxs hrow hB hBa h2
      go_wp2
      go_loopw [5, 9] (fun out j wr' => ∃ k : Nat, k ≤ m.length ∧ j = .int .i64 (k : Int) ∧ CS wo.heap.size (wo.heap.size + 1) ax ay bx by' (xs ++ rowTo (⟨ax, ay⟩, ⟨bx, by'⟩) m k) out w wr') (fun _ j _ => m.length - (intOf j).toNat)
      case atStart => exact ⟨0, by omega, rfl, HS0.out⟩
      case round =>
        clear HS0 mt mw e0 e1 e2 e3
        obtain ⟨j, hjk, rfl, hS⟩ := hrel
        have hzB := hS.bel.size
        by_cases hlj : j < m.length
        · obtain ⟨mj, hmj, hme, mw, mt⟩ := mod_next hlj hlm
          have pc := PM.out j hlj
          have pd := PM.out mj hmj
          have hsd : sideP m j = (nth m j, nth m mj) := by unfold sideP; rw [hme]
          have hos := rowTo_succ (⟨ax, ay⟩, ⟨bx, by'⟩) m j
          rw [hsd] at hos
          obtain ⟨q0, q1⟩ := HC2.out j hlj
          obtain ⟨q2, q3⟩ := HC2.out mj hmj
          have e0 := (hS.bel.cell (p := ⟨b2, o2 + j * 2, none⟩) hb2).trans q0
          have e1 := (hS.bel.cell (p := ⟨b2, o2 + j * 2 + 1, none⟩) hb2).trans q1
          obtain ⟨⟨cx, cy⟩, hec⟩ : ∃ t, nth m j = t := ⟨_, rfl⟩
          obtain ⟨⟨dx, dy⟩, hed⟩ : ∃ t, nth m mj = t := ⟨_, rfl⟩
          rw [hec] at e0 e1 pc hos
          rw [hed] at q2 q3 pd hos
          simp only at e0 e1 q2 q3 pc pd
          have hBa := hS.bel.alloc hzB (.cells #[.int .i64 cx, .int .i64 cy] 31)
          have e2 := (hBa.cell (p := ⟨b2, o2 + mj * 2, none⟩) hb2).trans q2
          have e3 := (hBa.cell (p := ⟨b2, o2 + mj * 2 + 1, none⟩) hb2).trans q3
          have h2 := two_has wr cx cy dx dy
          have hrl := rowTo_len (⟨ax, ay⟩, ⟨bx, by'⟩) m j
          have hfl : ∀ s t : Int, (frameR ⟨cx, cy⟩ ⟨dx, dy⟩ s t).length = 4 := fun _ _ => rfl
          have ts := turnV_bd (a := ⟨ax, ay⟩) (b := ⟨bx, by'⟩) (c := ⟨cx, cy⟩) pa pb pc
          have tt := turnV_bd (a := ⟨ax, ay⟩) (b := ⟨bx, by'⟩) (c := ⟨dx, dy⟩) pa pb pd
          simp only at ts tt
          have f1 := Lib.hid (fun w1 => cross_any ax ay bx by' cx cy w1 (by omega) (by omega) (by omega) (by omega) (by omega) (by omega) (by omega) (by omega) (by omega) (by omega) (by omega) (by omega))
          have f2 := Lib.hid (fun w1 => cross_any ax ay bx by' dx dy w1 (by omega) (by omega) (by omega) (by omega) (by omega) (by omega) (by omega) (by omega) (by omega) (by omega) (by omega) (by omega))
          have f3 := Lib.hid (fun w1 => cross_any cx cy dx dy ax ay w1 (by omega) (by omega) (by omega) (by omega) (by omega) (by omega) (by omega) (by omega) (by omega) (by omega) (by omega) (by omega))
          have f4 := Lib.hid (fun w1 => cross_any cx cy dx dy bx by' w1 (by omega) (by omega) (by omega) (by omega) (by omega) (by omega) (by omega) (by omega) (by omega) (by omega) (by omega) (by omega))
          have hpc : placeP ⟨cx, cy⟩ = true := place_iff.2 pc
          have hpd : placeP ⟨dx, dy⟩ = true := place_iff.2 pd
          have hcr : crossR (⟨ax, ay⟩, ⟨bx, by'⟩) (⟨cx, cy⟩, ⟨dx, dy⟩) = if (crossB (turnV ax ay bx by' cx cy) (turnV ax ay bx by' dx dy) && crossB (turnV cx cy dx dy ax ay) (turnV cx cy dx dy bx by')) = true then frameR ⟨cx, cy⟩ ⟨dx, dy⟩ (turnV ax ay bx by' cx cy) (turnV ax ay bx by' dx dy) else [] := rfl
          rw [hcr] at hos
          obtain ⟨s, hs⟩ : ∃ s, turnV ax ay bx by' cx cy = s := ⟨_, rfl⟩
          obtain ⟨t, ht⟩ : ∃ s, turnV ax ay bx by' dx dy = s := ⟨_, rfl⟩
          obtain ⟨u, hu⟩ : ∃ s, turnV cx cy dx dy ax ay = s := ⟨_, rfl⟩
          obtain ⟨v, hv⟩ : ∃ s, turnV cx cy dx dy bx by' = s := ⟨_, rfl⟩
          rw [hs, ht, hu, hv] at hos
          rw [hs] at f1 ts
          rw [ht] at f2 tt
          rw [hu] at f3
          rw [hv] at f4
          have d1 := Lib.hid (fun w1 => differ_any s t w1)
          have d2 := Lib.hid (fun w1 => differ_any u v w1)
          have hf := Lib.hid (fun (hne : ¬ s - t = 0) w1 => rframe_any ⟨cx, cy⟩ ⟨dx, dy⟩ s t w1 hpc hpd ts.1 ts.2 tt.1 tt.2 hne)
          have hne : crossB s t = true → ¬ s - t = 0 := fun h => by unfold crossB at h; rw [decide_eq_true_eq] at h; omega
          obtain ⟨c1, hc1⟩ : ∃ c, crossB s t = c := ⟨_, rfl⟩
          obtain ⟨c2, hc2⟩ : ∃ c, crossB u v = c := ⟨_, rfl⟩
          rw [hc1] at d1 hos hne
          rw [hc2] at d2 hos
          have HOS := Lib.hid hos
          have HNE := Lib.hid hne
          have HS := Lib.hid (hS.below h2.2.2.1)
          have HD : Hid (DS wr.heap.size (wr.heap.size + 1) cx cy dx dy ((wr.alloc (.cells #[.int .i64 cx, .int .i64 cy] 31)).alloc (.cells #[.int .i64 dx, .int .i64 dy] 31))) := ⟨h2.1, h2.2.1⟩
          have ki : (j : Int) < m.length := by omega
          have k0' : (0 : Int) ≤ j := by omega
          have kmj : (mj : Int) < m.length := by omega
          have kmj0 : (0 : Int) ≤ mj := by omega
          have dj : decide ((j : Int) < (m.length : Int)) = true := by simp; omega
          obtain ⟨C0, hC0⟩ : ∃ C0, wr.heap.size = C0 := ⟨_, rfl⟩

          have za0 := (HS.out.gA.cell (i := 0) rfl)
          have za1 := (HS.out.gA.cell (i := 1) rfl)
          have zb0 := (HS.out.gB.cell (i := 0) rfl)
          have zb1 := (HS.out.gB.cell (i := 1) rfl)
          have zc0 := (HD.out.gC.cell (i := 0) rfl)
          have zc1 := (HD.out.gC.cell (i := 1) rfl)
          have zd0 := (HD.out.gD.cell (i := 0) rfl)
          have zd1 := (HD.out.gD.cell (i := 1) rfl)
          clear q0 q1 q2 q3 hec hed hsd hos hme hS hBa h2 pa pb pc pd hpc hpd hcr hs ht hu hv ts tt hne hc1 hc2 hC0
          go_wp2_with fail
          refine (f1.out _).mono ?_
          rintro e w5 ⟨rfl, b5⟩
          have HS' := Lib.hid (HS.out.below b5)
          have HD' := Lib.hid (HD.out.below b5)
          clear za0 za1 zb0 zb1 zc0 zc1 zd0 zd1
          clear HS HD
          have HS := HS'
          have HD := HD'
          clear HS' HD'
          have za0 := (HS.out.gA.cell (i := 0) rfl)
          have za1 := (HS.out.gA.cell (i := 1) rfl)
          have zb0 := (HS.out.gB.cell (i := 0) rfl)
          have zb1 := (HS.out.gB.cell (i := 1) rfl)
          have zc0 := (HD.out.gC.cell (i := 0) rfl)
          have zc1 := (HD.out.gC.cell (i := 1) rfl)
          have zd0 := (HD.out.gD.cell (i := 0) rfl)
          have zd1 := (HD.out.gD.cell (i := 1) rfl)
          clear b5
          go_wp2_with fail
          refine (f2.out _).mono ?_
          rintro e w6 ⟨rfl, b6⟩
          have HS' := Lib.hid (HS.out.below b6)
          have HD' := Lib.hid (HD.out.below b6)
          clear za0 za1 zb0 zb1 zc0 zc1 zd0 zd1
          clear HS HD
          have HS := HS'
          have HD := HD'
          clear HS' HD'
          have za0 := Low.fact (HS.out.gA.cell (i := 0) rfl)
          have za1 := Low.fact (HS.out.gA.cell (i := 1) rfl)
          have zb0 := Low.fact (HS.out.gB.cell (i := 0) rfl)
          have zb1 := Low.fact (HS.out.gB.cell (i := 1) rfl)
          have zc0 := Low.fact (HD.out.gC.cell (i := 0) rfl)
          have zc1 := Low.fact (HD.out.gC.cell (i := 1) rfl)
          have zd0 := Low.fact (HD.out.gD.cell (i := 0) rfl)
          have zd1 := Low.fact (HD.out.gD.cell (i := 1) rfl)
          clear b6
          go_wp2_with (go_at_call 112; refine (d1.out _).mono ?_; rintro e w' ⟨rfl, rfl⟩)
          (refine wp_region_low (by kernel_rfl) (by kernel_rfl) ?_; (iterate 10 (apply quiet_want; (case hw => rfl); (case hval => (intro w1 hw1; have hcx := Low.cells hw1; simp only [Oper.quietAt]; go_simp; first | done | (first | (go_at_call 48; with_reducible exact Low.calls hw1 (f3.out _)) | (go_at_call 48; with_reducible exact Low.calls hw1 (f4.out _)) | (go_at_call 112; with_reducible exact Low.calls_same hw1 (d2.out _))) | rfl | exact ⟨rfl, rfl⟩)); simp only [Act.put, List.setIfInBounds_toArray, List.set_cons_zero, List.set_cons_succ])); refine wpQuiet_nil ?_; intro w2 hw2)
          have HS' := Lib.hid (HS.out.below hw2.out)
          have HD' := Lib.hid (HD.out.below hw2.out)
          clear za0 za1 zb0 zb1 zc0 zc1 zd0 zd1
          clear HS HD
          have HS := HS'
          have HD := HD'
          clear HS' HD'
          have za0 := (HS.out.gA.cell (i := 0) rfl)
          have za1 := (HS.out.gA.cell (i := 1) rfl)
          have zb0 := (HS.out.gB.cell (i := 0) rfl)
          have zb1 := (HS.out.gB.cell (i := 1) rfl)
          have zc0 := (HD.out.gC.cell (i := 0) rfl)
          have zc1 := (HD.out.gC.cell (i := 1) rfl)
          have zd0 := (HD.out.gD.cell (i := 0) rfl)
          have zd1 := (HD.out.gD.cell (i := 1) rfl)
          clear hw2 d1 d2 f1 f2 f3 f4 mt mw e0 e1 e2 e3
          cases c1
          · have hz := HS.out.bel.size
            go_wp2
            go_roundw
            case rel =>
              refine ⟨j + 1, by omega, by go_num, ?_⟩
              rw [HOS.out]
              simpa using HS.out
            case measure => simp [intOf]; omega
          · cases c2
            · have hz := HS.out.bel.size
              go_wp2
              go_roundw
              case rel =>
                refine ⟨j + 1, by omega, by go_num, ?_⟩
                rw [HOS.out]
                simpa using HS.out
              case measure => simp [intOf]; omega
            · go_wp2_with fail
              refine (hf.out (HNE.out trivial) _).mono ?_
              rintro e w8 ⟨vf, rfl, hpf, b8⟩
              have HS' := Lib.hid (HS.out.below b8)
              obtain ⟨_, af, capf, rfl, hcf⟩ := hpf
              obtain ⟨bf, of, rfl, hbf, hcf⟩ := hcf.resolve_left (fun h => by have := hfl s t; rw [h] at this; simp at this)
              have hz := HS'.out.bel.size
              have hl1 := hfl s t
              rw [hl1]
              have hrw := HS'.out.row
              have hlen : (xs ++ rowTo (⟨ax, ay⟩, ⟨bx, by'⟩) m j).length ≤ 100000 := by rw [List.length_append]; omega
              clear za0 za1 zb0 zb1 zc0 zc1 zd0 zd1
              clear HS HD b8
              go_wp2_with (at_builtin; refine wpList_append_own_at _ rfl _ _ 22 rfl w.heap.size 31 i0 (.agg #[.int .i64 0, .int .i64 0]) 2 16 Try.underlying22 hi hz0' hz1' hz2' rfl (by decide) _ _ _ rfl hrw ⟨bf, of, none⟩ 4 _ (ptCells (frameR ⟨cx, cy⟩ ⟨dx, dy⟩ s t)) rfl (by rw [ptCells_len, hl1]) (pt_add hcf) (ptCells_one _) (by unfold maxLen; omega) (by omega) hz ?_; intro v' w9 hown' hgrow _ hob)
              have HZ := Lib.hid (HS'.out.app (ys := frameR ⟨cx, cy⟩ ⟨dx, dy⟩ s t) (by rw [hl1]; exact hown') hgrow hob)
              clear hown' hgrow hob hrw hcf
              go_roundw
              case rel =>
                refine ⟨j + 1, by omega, by go_num, ?_⟩
                rw [HOS.out]
                rw [← List.append_assoc]
                exact HZ.out
              case measure => simp [intOf]; omega
        · obtain rfl : j = m.length := by omega
          have dj : decide ((m.length : Int) < (m.length : Int)) = false := by simp
          have HZ := Lib.hid hS
          clear hS
          go_wp2
          go_roundw
          case rel =>
            refine ⟨i + 1, by omega, by go_num, ?_, HZ.out.bel⟩
            rw [hos'.out]
            exact HZ.out.row
          case measure => simp [intOf]; omega
    · obtain rfl : i = l.length := by omega
      have dk : decide ((l.length : Int) < (l.length : Int)) = false := by simp
      have hxl := outTo_len l m l.length
      have hlt4 : 4 * m.length * l.length ≤ 4 * 64 * 64 := Nat.mul_le_mul (Nat.mul_le_mul (Nat.le_refl 4) m64) l64
      have HI := Lib.hid (PtsAt.own hrow (by omega))
      have HB := Lib.hid hB
      clear hrow hB
      go_wp2
      go_ret
      exact ⟨_, rfl, HI.out, HB.out⟩
end Go.Proofs.Ytjjkmonfihomnaa
