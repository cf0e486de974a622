/- mink.Disk. | landfallref32: Radius, disk, Corridor, Has; landfallref03.Same. | package spread: isPlace, isRadius, around, Corridor. -/
import Derived.Test.YtfbdidfaeplllaaGreatBin24
import Derived.Test.YtfbdidfaeplllaaGreatBin22
import Derived.Test.YtfbdidfaeplllaaGreatBin03
import Derived.Test.YtfbdidfaeplllaaGreatBin08
namespace Go.Proofs.YtfbdidfaeplllaaGreat
open Go.RowKit
attribute [local irreducible] wpQuiet
attribute [local irreducible] hulE hulL

theorem has_off {W : World} {B base size n : Nat} {cs : Array Value} {t e : TypeId} {v : Value} {xs : List Value} (h : Has W B cs t) (hr : W.ownsRow base e size v n xs) (hne : t ≠ e) : v.ownBlock ≠ some B := by
  intro e'
  rcases hr.2 with ⟨rfl, _⟩ | ⟨g, cap, cur, rfl, _, hg, _⟩
  · simp [Value.ownBlock] at e'
  · obtain rfl : g = B := by simpa [Value.ownBlock] using e'
    rw [show W.heap[g]? = _ from h] at hg
    cases hg
    exact hne rfl
/-- how the corners come to be: four pairs -/
def octTo (n k : Int) : Nat → List Pt
  | 0 => []
  | 1 => [⟨-n, -k⟩, ⟨-k, -n⟩]
  | 2 => [⟨-n, -k⟩, ⟨-k, -n⟩, ⟨-n, k⟩, ⟨-k, n⟩]
  | 3 => [⟨-n, -k⟩, ⟨-k, -n⟩, ⟨-n, k⟩, ⟨-k, n⟩, ⟨n, -k⟩, ⟨k, -n⟩]
  | _ => octG n k
theorem two_new (W : World) (e : TypeId) (a b c d : Value) : ∀ j u, ([a, b, c, d] : List Value)[j]? = some u → (W.alloc (.cells #[a, b, c, d] e)).cell? ((⟨W.heap.size, 0, none⟩ : Addr).add j) = some u := by
  intro j u hu
  have h := Has.new W #[a, b, c, d] e
  have e' : (⟨W.heap.size, 0, none⟩ : Addr).add j = ⟨W.heap.size, j, none⟩ := by unfold Addr.add; split <;> simp_all
  rw [e']
  exact h.cell (by simpa using hu)
theorem diskE (n : Nat) (h : n ≤ 100000) : hulE (octG n (octK n)) = 0 ∧ hulL (octG n (octK n)) = diskP n := by
  have e : hulE (octG n (octK n)) = 0 := by
    unfold hulE
    have hp : allPl (octG n (octK n)) = true := by
      rw [allPl_mem]
      exact fun x hx => (oct_place h ((oct_same _ _ x).1 hx)).2
    have hl := hullP_len (octG (n : Int) (octK n))
    rw [if_neg (by simp [octG]), if_neg (by rw [hp]; simp [octG]), if_neg (by have : (octG (n : Int) (octK n)).length = 8 := rfl; omega)]
  refine ⟨e, ?_⟩
  unfold hulL
  rw [if_pos e]
  exact diskG n
noncomputable def dskE (n : Int) : Int := if radOk n = true then 0 else 1
noncomputable def dskL (n : Int) : List Pt := if radOk n = true then diskP n.toNat else []
theorem mdisk_no (n : Int) (w : World) (h : radOk n = false) :
    Calls Tryz.prog 73 #[.int .i64 n] w fun e w' => e = .returned (.tuple #[.slice none 0 0, .int .i64 1]) ∧ Below w.heap.size w w' := by
  by_cases h1 : n < 0
  · have d1 : decide (n < 0) = true := by simpa using h1
    clear h1 h
    go_enter Tryz.func73, Tryz.ntmps73
    go_wp2
    go_ret2
    exact ⟨rfl, Below.refl _ _⟩
  · have d1 : decide (n < 0) = false := by simpa using h1
    have d2 : decide (n > 100000) = true := by simp [radOk] at h; simp; omega
    clear h1 h
    go_enter Tryz.func73, Tryz.ntmps73
    go_wp2
    go_ret2
    exact ⟨rfl, Below.refl _ _⟩
theorem octTo_step (n k : Int) : (ptCells (octTo n k 0) ++ [.int .i64 (-n), .int .i64 (-k), .int .i64 (-k), .int .i64 (-n)] = ptCells (octTo n k 1)) ∧ (ptCells (octTo n k 1) ++ [.int .i64 (-n), .int .i64 k, .int .i64 (-k), .int .i64 n] = ptCells (octTo n k 2)) ∧
    (ptCells (octTo n k 2) ++ [.int .i64 n, .int .i64 (-k), .int .i64 k, .int .i64 (-n)] = ptCells (octTo n k 3)) ∧ (ptCells (octTo n k 3) ++ [.int .i64 n, .int .i64 k, .int .i64 k, .int .i64 n] = ptCells (octTo n k 4)) := ⟨rfl, rfl, rfl, rfl⟩
set_option linter.unusedSimpArgs false in
set_option maxRecDepth 8000 in
set_option maxHeartbeats 3200000 in
theorem mdisk_yes (n : Nat) (w : World) (hn : n ≤ 100000) :
    Calls Tryz.prog 73 #[.int .i64 n] w fun e w' => ∃ u, e = .returned (.tuple #[u, .int .i64 0]) ∧ PtsAt w'.heap.size w' u (diskP n) ∧ Below w.heap.size w w' := by
  have hsp := wideN_spec n
  have hw1 := wideN_ge n
  have hw2 := wideN_two n
  have hkb := octK_bd n
  have hk : octK n = (wideN n : Int) - n := rfl
  have fH := Lib.hid (fun v w1 (h : PtsAt w1.heap.size w1 v (octG n (octK n))) => hull_any v (octG n (octK n)) w1 h)
  have HE := Lib.hid (diskE n hn)
  have HST := Lib.hid (octTo_step n (octK n))
  have HG : Hid (octTo n (octK n) 4 = octG n (octK n)) := rfl
  obtain ⟨W, hW⟩ : ∃ W, wideN n = W := ⟨_, rfl⟩
  rw [hW] at hsp hw1 hw2 hk
  have HSP := Lib.hid hsp
  obtain ⟨k, hkk⟩ : ∃ k, octK n = k := ⟨_, rfl⟩
  rw [hkk] at hk hkb fH HE HST HG
  obtain ⟨i0, hi, hz0', hz1', hz2'⟩ := info_parts ptInfo
  have w4 : IntKind.i64.wrap (2 * (n : Int)) = 2 * n := IntWalk.i64_in _ (by omega)
  have pn := prod_bd (a := 2 * (n : Int)) (b := n) (m := 200000) (n := 100000) (by omega) (by omega) (by omega) (by omega)
  have w5 : IntKind.i64.wrap (2 * (n : Int) * n) = 2 * n * n := IntWalk.i64_in _ (by omega)
  have w6 : IntKind.i64.wrap ((W : Int) - n) = k := by rw [hk]; exact IntWalk.i64_in _ (by omega)
  have dn : decide ((n : Int) < 0) = false := by simp
  have dn2 : decide ((n : Int) > 100000) = false := by simp; omega
  have HK := Lib.hid hk
  clear hsp hW hkk hk
  go_enter Tryz.func73, Tryz.ntmps73
  go_wp2
  go_loopw [4, 5] (fun lo hi wr => ∃ a b : Nat, lo = .int .i64 (a : Int) ∧ hi = .int .i64 (b : Int) ∧ n ≤ a ∧ a ≤ W ∧ W ≤ b ∧ b ≤ 2 * n ∧ wr = w) (fun lo hi _ => (intOf hi).toNat - (intOf lo).toNat)
  case atStart => exact ⟨n, 2 * n, rfl, by simp, by omega, by omega, by omega, by omega, rfl⟩
  case round =>
    obtain ⟨a, b, rfl, rfl, ha, haW, hWb, hb, rfl⟩ := hrel
    by_cases hab : a < b
    · have dab : decide ((a : Int) < (b : Int)) = true := by simp; omega
      obtain ⟨q, hq⟩ : ∃ q, (a + b) / 2 = q := ⟨_, rfl⟩
      have w1 : IntKind.i64.wrap ((a : Int) + b) = a + b := IntWalk.i64_in _ (by omega)
      have w2 : IntKind.i64.wrap (((a : Int) + b).tdiv 2) = q := by
        rw [Int.tdiv_eq_ediv_of_nonneg (by omega), show ((a : Int) + b) / 2 = q by omega]
        exact IntWalk.i64_in _ (by omega)
      have pq := prod_bd (a := (q : Int)) (b := q) (m := 200000) (n := 200000) (by omega) (by omega) (by omega) (by omega)
      have w3 : IntKind.i64.wrap ((q : Int) * q) = q * q := IntWalk.i64_in _ (by omega)
      have hc : (2 * (n : Int) * n ≤ (q : Int) * q) ↔ W ≤ q := by
        have h1 : (2 * (n : Int) * n ≤ (q : Int) * q) ↔ 2 * n * n ≤ q * q := by
          rw [← Int.ofNat_le]; simp
        rw [h1]
        constructor
        · intro h
          rcases Nat.lt_or_ge q W with h2 | h2
          · have := HSP.out.2 q h2; omega
          · exact h2
        · intro h
          exact Nat.le_trans HSP.out.1 (Nat.mul_le_mul h h)
      have hqa : a ≤ q := by omega
      have hqb : q < b := by omega
      clear hq
      by_cases hWq : W ≤ q
      · have d1 : decide ((q : Int) * q ≥ 2 * (n : Int) * n) = true := by rw [decide_eq_true_eq]; exact hc.2 hWq
        clear hc pq pn
        go_wp2
        go_roundw
        case rel => exact ⟨a, q, rfl, rfl, by omega, by omega, by omega, by omega, trivial⟩
        case measure => simp [intOf]; omega
      · have d1 : decide ((q : Int) * q ≥ 2 * (n : Int) * n) = false := by rw [decide_eq_false_iff_not]; exact fun h => hWq (hc.1 h)
        clear hc pq pn
        go_wp2
        go_roundw
        case rel => exact ⟨q + 1, b, by go_num, rfl, by omega, by omega, by omega, by omega, trivial⟩
        case measure => simp [intOf]; omega
    · have dab : decide ((a : Int) < (b : Int)) = false := by simp; omega
      obtain rfl : a = W := by omega
      clear hWb hb haW ha pn
      obtain ⟨wq, rfl⟩ : ∃ x, x = wr := ⟨_, rfl⟩
      have BA := Lib.hid ((Below.refl wq.heap.size wq).alloc (Nat.le_refl _) (.cells #[.int .i64 (-1), .int .i64 1] 3))
      have NA := Lib.hid (Has.new wq #[.int .i64 (-1), .int .i64 1] 3)
      go_wp2
      go_loopw [8, 45] (fun v i wx => ∃ c : Nat, c ≤ 2 ∧ i = .int .i64 (c : Int) ∧ wx.ownsRow (wq.heap.size + 1) 31 2 v (4 * c) (ptCells (octTo n k (2 * c))) ∧ Has wx wq.heap.size #[.int .i64 (-1), .int .i64 1] 3 ∧ Below wq.heap.size wq wx) (fun _ i _ => 2 - (intOf i).toNat)
      case atStart => exact ⟨0, by omega, rfl, World.ownsRow_nil _ _ _ _, NA.out, BA.out⟩
      case round =>
        obtain ⟨wx, rfl⟩ : ∃ x, x = wr := ⟨_, rfl⟩
        obtain ⟨c, hc, rfl, hrow, hN, hB⟩ := hrel
        have hzB := hB.size
        have hnz := hN.lt
        by_cases hc2 : c < 2
        · have dc : decide ((c : Int) < 2) = true := by simp; omega
          have x0 := hN.cell (i := 0) rfl
          have x1 := hN.cell (i := 1) rfl
          have xc : wx.cell? ⟨wq.heap.size, c, none⟩ = some (.int .i64 (if c = 0 then -1 else 1)) := by
            rcases (show c = 0 ∨ c = 1 by omega) with rfl | rfl
            · exact x0
            · exact x1
          have c0 : (0 : Int) ≤ c := by omega
          have cl : (c : Int) < 2 := by omega
          have BI := (Below.refl wx.heap.size wx).alloc (Nat.le_refl _) (.cells #[.int .i64 (-1), .int .i64 1] 3)
          have NI := Lib.hid (Has.new wx #[.int .i64 (-1), .int .i64 1] 3)
          have RI := Lib.hid (prow_below hrow BI)
          have NO := Lib.hid (hN.below BI hnz)
          have BB := Lib.hid (hB.trans (BI.mono hzB))
          obtain ⟨sx, hsx⟩ : ∃ s : Int, (if c = 0 then (-1 : Int) else 1) = s := ⟨_, rfl⟩
          rw [hsx] at xc
          have HSX := Lib.hid hsx
          clear hrow hN hB x0 x1 BI hsx
          go_wp2
          go_loopw [8, 51] (fun v i wy => ∃ e : Nat, e ≤ 2 ∧ i = .int .i64 (e : Int) ∧ wy.ownsRow (wq.heap.size + 1) 31 2 v (4 * c + 2 * e) (ptCells (octTo n k (2 * c + e))) ∧ Has wy wq.heap.size #[.int .i64 (-1), .int .i64 1] 3 ∧ Has wy wx.heap.size #[.int .i64 (-1), .int .i64 1] 3 ∧ Below wq.heap.size wq wy) (fun _ i _ => 2 - (intOf i).toNat)
          case atStart => exact ⟨0, by omega, rfl, RI.out, NO.out, NI.out, BB.out⟩
          case round =>
            obtain ⟨wy, rfl⟩ : ∃ x, x = wr := ⟨_, rfl⟩
            obtain ⟨e, he, rfl, hrow, hN, hM, hB⟩ := hrel
            have hzB := hB.size
            by_cases he2 : e < 2
            · have de : decide ((e : Int) < 2) = true := by simp; omega
              have x0 := hM.cell (i := 0) rfl
              have x1 := hM.cell (i := 1) rfl
              have xe : wy.cell? ⟨wx.heap.size, e, none⟩ = some (.int .i64 (if e = 0 then -1 else 1)) := by
                rcases (show e = 0 ∨ e = 1 by omega) with rfl | rfl
                · exact x0
                · exact x1
              obtain ⟨sy, hsy⟩ : ∃ s : Int, (if e = 0 then (-1 : Int) else 1) = s := ⟨_, rfl⟩
              rw [hsy] at xe
              have bx : -1 ≤ sx ∧ sx ≤ 1 := by have := HSX.out; split at this <;> omega
              have by' : -1 ≤ sy ∧ sy ≤ 1 := by split at hsy <;> omega
              have p1 := prod_bd (a := sx) (b := (n : Int)) (m := 1) (n := 100000) (by omega) (by omega) (by omega) (by omega)
              have p2 := prod_bd (a := sy) (b := k) (m := 1) (n := 100000) (by omega) (by omega) (by omega) (by omega)
              have p3 := prod_bd (a := sx) (b := k) (m := 1) (n := 100000) (by omega) (by omega) (by omega) (by omega)
              have p4 := prod_bd (a := sy) (b := (n : Int)) (m := 1) (n := 100000) (by omega) (by omega) (by omega) (by omega)
              have m1 : IntKind.i64.wrap (sx * (n : Int)) = sx * n := IntWalk.i64_in _ (by omega)
              have m2 : IntKind.i64.wrap (sy * k) = sy * k := IntWalk.i64_in _ (by omega)
              have m3 : IntKind.i64.wrap (sx * k) = sx * k := IntWalk.i64_in _ (by omega)
              have m4 : IntKind.i64.wrap (sy * (n : Int)) = sy * n := IntWalk.i64_in _ (by omega)
              have hnew : Hid (ptCells (octTo n k (2 * c + e)) ++ [.int .i64 (sx * n), .int .i64 (sy * k), .int .i64 (sx * k), .int .i64 (sy * n)] = ptCells (octTo n k (2 * c + (e + 1)))) := by
                have h1 := HSX.out
                show _ = _
                rcases (show c = 0 ∨ c = 1 by omega) with rfl | rfl <;> rcases (show e = 0 ∨ e = 1 by omega) with rfl | rfl
                · simp at h1 hsy; subst h1; subst hsy; simpa using HST.out.1
                · simp at h1 hsy; subst h1; subst hsy; simpa using HST.out.2.1
                · simp at h1 hsy; subst h1; subst hsy; simpa using HST.out.2.2.1
                · simp at h1 hsy; subst h1; subst hsy; simpa using HST.out.2.2.2
              have e0 : (0 : Int) ≤ e := by omega
              have el : (e : Int) < 2 := by omega
              have HR := Lib.hid (And.intro hrow (And.intro hN (And.intro hM hB)))
              have hzz : wq.heap.size + 1 ≤ wy.heap.size := hN.lt
              have A := Lib.hid ((Below.refl wy.heap.size wy).alloc (Nat.le_refl _) (.cells #[.int .i64 (sx * n), .int .i64 (sy * k), .int .i64 (sx * k), .int .i64 (sy * n)] 31))
              clear hrow hN hM hB x0 x1 hsy p1 p2 p3 p4 bx by'
              go_wp2_with (at_builtin; refine wpList_append_own _ rfl _ _ 23 rfl (wq.heap.size + 1) 31 i0 (.agg #[.int .i64 0, .int .i64 0]) 2 16 Tryz.underlying23 hi hz0' hz1' hz2' rfl (by decide) _ _ _ rfl (HR.out.1.alloc _) ⟨wy.heap.size, 0, none⟩ 2 2 [.int .i64 (sx * n), .int .i64 (sy * k), .int .i64 (sx * k), .int .i64 (sy * n)] rfl rfl (two_new _ _ _ _ _ _) (by simp [Value.oneCell']) (by unfold maxLen; omega) (by omega) (by simp; omega) ?_; intro v' w4 hown' hgrow _)
              go_roundw
              case rel =>
                obtain ⟨hrow, hN, hM, hB⟩ := HR.out
                have rA := prow_below hrow A.out
                refine ⟨e + 1, by omega, by go_num, ?_, (hN.below A.out hN.lt).kept hgrow (fun h => has_off hN hrow (by decide) h), (hM.below A.out hM.lt).kept hgrow (fun h => has_off hM hrow (by decide) h), ?_⟩
                · rw [← hnew.out]; exact hown'
                · exact (hB.trans (A.out.mono hzB)).grown hgrow (by simp; omega) (fun j ej => by have := (rA.lt j ej).1; omega)
              case measure => simp [intOf]; omega
            · obtain rfl : e = 2 := by omega
              have HR := Lib.hid (And.intro hrow (And.intro hN hB))
              clear hrow hN hM hB
              go_wp2
              go_roundw
              case rel => exact ⟨c + 1, by omega, by go_num, HR.out.1, HR.out.2.1, HR.out.2.2⟩
              case measure => simp [intOf]; omega
        · obtain rfl : c = 2 := by omega
          have PL := Lib.hid (PtsAt.own (l := octG n k) hrow (by simp [octG]))
          have HB := Lib.hid hB
          clear hrow hN hB
          go_wp2_with fail
          have f := fH.out _ _ PL.out
          rw [HE.out.1, HE.out.2] at f
          refine f.mono ?_
          rintro e w2 ⟨u, rfl, pu, bu⟩
          have PU := Lib.hid pu
          have BU := Lib.hid (HB.out.trans (bu.mono HB.out.size))
          obtain ⟨au, cu, hu⟩ := pu.len
          subst hu
          clear pu bu f
          go_wp2
          go_ret2
          exact ⟨_, rfl, PU.out, BU.out⟩
theorem mdisk_any (n : Int) (w : World) :
    Calls Tryz.prog 73 #[.int .i64 n] w fun e w' => ∃ u, e = .returned (.tuple #[u, .int .i64 (dskE n)]) ∧ PtsAt w'.heap.size w' u (dskL n) ∧ Below w.heap.size w w' := by
  unfold dskE dskL
  cases h : radOk n
  · exact (mdisk_no n w h).mono fun e w' ⟨he, hb⟩ => ⟨_, he, PtsAt.nil _ _, hb⟩
  · have h1 : 0 ≤ n ∧ n ≤ 100000 := by simpa [radOk] using h
    obtain ⟨q, rfl⟩ : ∃ q : Nat, n = q := ⟨n.toNat, by omega⟩
    exact mdisk_yes q w (by omega)
end Go.Proofs.YtfbdidfaeplllaaGreat

namespace Go.Proofs.YtfbdidfaeplllaaGreat
open Go.RowKit
attribute [local irreducible] wpQuiet

theorem HeadInv.put {md : Region.Mode} {ops : Array Oper} {k j : Nat} {listed : Array Bool} (inv : HeadInv md ops k listed) (hr : (Region.ready md ops listed).contains j = true) (hlt : j < k) : HeadInv md ops k (listed.setIfInBounds j true) := inv.set (by simpa using hr) hlt
end Go.Proofs.YtfbdidfaeplllaaGreat

namespace Go.Proofs.YtfbdidfaeplllaaGreat
open Go.RowKit
attribute [local irreducible] wpQuiet
attribute [local irreducible] hulE hulL

theorem goValid_one (p : Pt) : goValid [p] = placeP p := by
  rw [Bool.eq_iff_iff]
  constructor
  · intro h; exact ((goValid_true h).2.2.1 0 (by simp)).1
  · intro h
    refine goValid_of ⟨by simp, by simp, fun k hk => ?_, fun h3 => by simp at h3⟩
    obtain rfl : k = 0 := by simpa using hk
    exact ⟨h, fun h0 => by omega⟩
end Go.Proofs.YtfbdidfaeplllaaGreat
