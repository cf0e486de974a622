/- package power: ways: the iterator over the ways, with what is used up there. -/
import Derived.Test.YtjnjmpakmgmdbaaPow
import Derived.Test.YtjnjmpakmgmdbaaHome
namespace Go.Proofs.Ytjnjmpakmgmdbaa
open Go.RowKit Go.Shelf
attribute [local go_sem] Oper.semAt_some
attribute [local irreducible] wpQuiet

/-- what a stop at a way takes -/
def waitT (m : Msn) (l : List Int) (k : Nat) : Int := if (k : Int) ∈ l then (wy m.ways k).wait else 0
/-- what is used up at a way -/
def usT (m : Msn) (l : List Int) : Nat → Int
  | 0 => 0
  | k + 1 => usT m l k + waitT m l k + tLeg m k (k + 1)
def usE (m : Msn) (l : List Int) : Nat → Int
  | 0 => 0
  | k + 1 => usE m l k + m.idle * waitT m l k + eLeg m k (k + 1)
/-- .. and ahead of the leg to it -/
def hdT (m : Msn) (l : List Int) : Nat → Int
  | 0 => 0
  | k + 1 => usT m l k + waitT m l k
def hdE (m : Msn) (l : List Int) : Nat → Int
  | 0 => 0
  | k + 1 => usE m l k + m.idle * waitT m l k
theorem wait_bd {m : Msn} (V : VMsn m) (l : List Int) {k : Nat} (hk : k < m.ways.length) : 0 ≤ waitT m l k ∧ waitT m l k ≤ 100000 ∧ 0 ≤ m.idle * waitT m l k ∧ m.idle * waitT m l k ≤ 100000000 := by
  have wb := wayB_true (waysB_at V.ways hk)
  have h : 0 ≤ waitT m l k ∧ waitT m l k ≤ 100000 := by unfold waitT; split <;> omega
  have h1 := Int.mul_nonneg V.idle.1 h.1
  have h2 := Int.mul_le_mul V.idle.2 h.2 h.1 (by omega)
  omega
theorem used_bd {m : Msn} (V : VMsn m) (l : List Int) : ∀ k, k < m.ways.length → 0 ≤ usT m l k ∧ usT m l k ≤ k * 100000000 ∧ 0 ≤ usE m l k ∧ usE m l k ≤ k * 100000000000
  | 0, _ => by simp [usT, usE]
  | k + 1, h => by
    have ih := used_bd V l k (by omega)
    have w := wait_bd V l (k := k) (by omega)
    have t := tLeg_bd V.leg V.ways (i := k) (j := k + 1) (by omega) h
    have e := eLeg_bd V (i := k) (j := k + 1) (by omega) h
    simp only [usT, usE]; omega
theorem hd_bd {m : Msn} (V : VMsn m) (l : List Int) : ∀ k, k ≤ m.ways.length → 0 ≤ hdT m l k ∧ hdT m l k ≤ k * 100000000 ∧ 0 ≤ hdE m l k ∧ hdE m l k ≤ k * 100000000000
  | 0, _ => by simp [hdT, hdE]
  | k + 1, h => by
    have u := used_bd V l k (by omega)
    have w := wait_bd V l (k := k) (by omega)
    simp only [hdT, hdE]; omega
theorem used_of_hd (m : Msn) (l : List Int) : ∀ k, usT m l (k + 1) = hdT m l (k + 1) + tLeg m k (k + 1) ∧ usE m l (k + 1) = hdE m l (k + 1) + eLeg m k (k + 1) := fun _ => ⟨rfl, rfl⟩

theorem ways_any (m : Msn) (vw vh vr : Value) (bm : Nat) (w : World) :
    Calls Try.prog 67 #[.agg (msnCells m vw vh vr), .map (some bm)] w fun e w' => e = .returned (.func (.func 88) #[] #[.pointer (some ⟨w.heap.size, 0, none⟩), .pointer (some ⟨w.heap.size + 1, 0, none⟩)]) ∧ (w.alloc (.cells (msnCells m vw vh vr) 26)).alloc (.cells #[.map (some bm)] 80) = w' := by
  unfold msnCells
  go_enter Try.func67, Try.ntmps67
  go_wp2
  go_ret
  exact ⟨rfl, rfl⟩

theorem Only.move {b : Nat} {own : Nat → Prop} {A C : World} (h : Only b A C) (ho : own b) (hc : ∃ o : Obj, A.heap[b]? = some o ∧ o.isCells = true) : MoveM own A C := MoveM.one ho hc h.os h.tape h.output h.size h.block

/-- what an element of the iteration hands over -/
def encW (m : Msn) (l : List Int) (x : Nat) : Array Value := #[.int .i64 (x : Int), .agg #[.int .i64 (usT m l x), .int .i64 (usE m l x)]]

theorem MsnAt.blocks {n0 : Nat} {A B : World} {m : Msn} {vw vh vr : Value} (h : MsnAt n0 A m vw vh vr) (hs : A.heap.size ≤ B.heap.size) (hb : ∀ b, b < n0 → B.heap[b]? = A.heap[b]?) : MsnAt n0 B m vw vh vr :=
  by
  have hB : Below n0 A { A with heap := B.heap } := ⟨rfl, rfl, rfl, hs, hb⟩
  exact h.below hB

set_option maxRecDepth 8000 in
set_option maxHeartbeats 2000000 in
theorem ways1_in (n : Nat) (hn : 1 ≤ n) (p : Nat → Prop) (m : Msn) (vw vh vr : Value) (l : List Int) (Bm Bs bm n0 : Nat) (W : World) (lp : Nat) (hV : validB m = true)
    (hm : MsnAt n0 W m vw vh vr) (hn0 : n0 ≤ W.heap.size) (hset : SetAt W bm l) (HM : Has W Bm (msnCells m vw vh vr) 26) (HS : Boxed W Bs 80 (.map (some bm)))
    (p0 : p W.heap.size) (p2 : p Bs) (p3 : p bm) (p4 : ∀ b, b < n0 → p b) (J Jx : List Nat → World → Prop)
    (hJ : ∀ s A B, J s A → MoveM (fun r => r = W.heap.size) A B → J s B)
    (hY : ∀ (pre : List Nat) (x : Nat) W1, J pre W1 → pre.length < m.ways.length → W.heap.size + 1 ≤ W1.heap.size → YieldAt Fence.wide (n - 1) Try.prog lp (encW m l x) W1 fun e W' =>
      (e = .returned (.bool true) ∧ J (pre ++ [x]) W' ∧ KeepsP p W1 W') ∨ (e = .returned (.bool false) ∧ Jx (pre ++ [x]) W')) (h0 : J [] W) :
    CallsIn Fence.wide n Try.prog 88 #[.func (.yield lp) #[] #[], .pointer (some ⟨Bm, 0, none⟩), .pointer (some ⟨Bs, 0, none⟩)] W fun e W' => (∃ v, e = .returned v) ∧
      ((∃ ys, ys = upto id m.ways.length ∧ J ys W') ∨ (∃ pre, (∃ j, j ≤ m.ways.length ∧ pre = upto id j) ∧ Jx pre W')) := by
  have V := (validB_iff m).1 hV
  have n41 := V.n41
  have HM0 := Lib.hid hm
  obtain ⟨⟨_, a1, cap1, rfl, _⟩, ⟨_, a2, cap2, rfl, _⟩, ⟨_, a3, cap3, rfl, _⟩⟩ := hm
  obtain ⟨c0, c1, c2, c3, c4, c5, c6, c7, c8, c9, c10⟩ := msn_cells HM
  have HV := Lib.hid (And.intro hV V)
  have HMB := Lib.hid HM
  have HSB := Lib.hid HS
  have HSET := Lib.hid hset
  have HJ0 := Lib.hid (hJ _ _ _ h0 (MoveM.alloc _ W (.cells (spentCells m (.slice a1 m.ways.length (m.ways.length + cap1)) (.slice a2 m.home.length (m.home.length + cap2)) (.slice a3 m.rocks.length (m.rocks.length + cap3)) 0 0) 89)))
  have HSP := Lib.hid (Has.new W (spentCells m (.slice a1 m.ways.length (m.ways.length + cap1)) (.slice a2 m.home.length (m.home.length + cap2)) (.slice a3 m.rocks.length (m.rocks.length + cap3)) 0 0) 89)
  have hmlt := HM.lt
  have hslt := HS.lt
  have hblt := hset.lt
  clear hV V HM HS hset h0
  refine callsIn_of_wp Try.func88 rfl trivial ?_ rfl
  simp only [Try.ntmps88, List.size_toArray, List.length_cons, List.length_nil, Nat.reduceAdd, Nat.reduceSub, Array.replicate_succ, Array.replicate_zero, List.push_toArray, List.append_toArray, List.nil_append, List.cons_append]
  gi_wp2
  have HW0 := Lib.hid (show ∀ b, p b → b ≠ W.heap.size → b < W.heap.size → (W.alloc (.cells (spentCells m (.slice a1 m.ways.length (m.ways.length + cap1)) (.slice a2 m.home.length (m.home.length + cap2)) (.slice a3 m.rocks.length (m.rocks.length + cap3)) 0 0) 89)).heap[b]? = W.heap[b]? from fun b _ _ hb => Below.heap_alloc _ _ _ hb)
  gi_loopw [11] (fun i wr => ∃ k : Nat, k ≤ m.ways.length ∧ i = .int .i64 k ∧ J (upto id k) wr ∧ wr.heap[W.heap.size]? = some (.cells (spentCells m (.slice a1 m.ways.length (m.ways.length + cap1)) (.slice a2 m.home.length (m.home.length + cap2)) (.slice a3 m.rocks.length (m.rocks.length + cap3)) (hdT m l k) (hdE m l k)) 89 (0, 0)) ∧ (∀ b, p b → b ≠ W.heap.size → b < W.heap.size → wr.heap[b]? = W.heap[b]?) ∧ W.heap.size + 1 ≤ wr.heap.size)
    (fun i _ => m.ways.length - (intOf i).toNat)
  case atStart => exact ⟨0, Nat.zero_le _, rfl, HJ0.out, HSP.out, HW0.out, by simp⟩
  case round =>
    obtain ⟨k, hk, rfl, hJs, hsp, hkp, hsz⟩ := hrel
    obtain ⟨hV, V⟩ := HV.out
    have hb := hd_bd V l k hk
    have HKP := Lib.hid hkp
    have HMr := HM0.out.blocks (B := wr) (by omega) (fun b hb => hkp b (p4 b hb) (by omega) (by omega))
    by_cases hlt : k < m.ways.length
    · have hub := used_bd V l k hlt
      have d1 : decide ((k : Int) < (m.ways.length : Int)) = true := by simp; omega
      have HMH := Lib.hid (HMr.mono (by omega : n0 ≤ wr.heap.size))
      clear hkp HMr
      cases k with
      | zero =>
        have c0 : wr.cell? ⟨W.heap.size, 0, none⟩ = some (.int .i64 (hdT m l 0)) := cells_cell hsp (i := 0) rfl
        have c1 : wr.cell? ⟨W.heap.size, 1, none⟩ = some (.int .i64 (hdE m l 0)) := cells_cell hsp (i := 1) rfl
        have HP2 := Lib.hid (And.intro hsp (Only.of_below (b := W.heap.size) (Below.refl _ wr)))
        obtain ⟨fn, tmps, assign, body, hy, hR⟩ := hY _ 0 _ hJs (by rw [upto_length]; omega) hsz
        unfold encW at hy
        have hz2 := hsz
        clear hsp hJs V hV hb
        simp only [usT, usE, hdT, hdE] at hy c0 c1 HP2
        simp only [Int.natCast_zero] at *
        gi_wp2
        refine hR.mono ?_
        rintro e W3 (⟨rfl, hJ3, hk3⟩ | ⟨rfl, hJx3⟩)
        · have hsp3 := (hk3.2 _ p0).trans HP2.out.1
          have hz3 : W.heap.size + 1 ≤ W3.heap.size := Nat.le_trans hz2 hk3.1
          have hkp3 : ∀ b, p b → b ≠ W.heap.size → b < W.heap.size → W3.heap[b]? = W.heap[b]? := fun b h1 h2 h3 => (hk3.2 b h1).trans (((HP2.out.2.block b (by omega) h2)).trans (HKP.out b h1 h2 h3))
          have hbs : Boxed W3 Bs 80 (.map (some bm)) := (hkp3 Bs p2 (by omega) hslt).trans HSB.out
          have hst : SetAt W3 bm l := HSET.out.block (hkp3 bm p3 (by omega) hblt)
          have hlook : (Instr.lookup 80 (.map (some bm)) (.int .i64 0) false).run Try.prog W3 = .ok (.bool (decide (((0 : Nat) : Int) ∈ l))) W3 := hst.look (k := (0 : Nat)) (i64_wf (by omega) (by omega))
          have hM3 := HM0.out.blocks (B := W3) (by omega) (fun b hb => hkp3 b (p4 b hb) (by omega) (by omega))
          have cbs := hbs.cell
          have HKP3 := Lib.hid hkp3
          have HSP3 := Lib.hid hsp3
          have HJ3 := Lib.hid hJ3
          have HM3 := Lib.hid (hM3.mono (by omega : n0 ≤ W3.heap.size))
          clear hkp3 hbs hst hM3 hJ3 hk3 hy hR hsp3
          by_cases hin : ((0 : Nat) : Int) ∈ l
          · have dl : decide (((0 : Nat) : Int) ∈ l) = true := by simpa using hin
            rw [dl] at hlook
            have hwt : Hid (hdT m l (0 + 1) = usT m l 0 + (wy m.ways 0).wait ∧ hdE m l (0 + 1) = usE m l 0 + m.idle * (wy m.ways 0).wait) := by
              show hdT m l (0 + 1) = _ ∧ _
              simp only [hdT, hdE, waitT, hin, if_true]; exact ⟨trivial, trivial⟩
            have hwa := Lib.hid (wait_any W.heap.size m (.slice a1 m.ways.length (m.ways.length + cap1)) (.slice a2 m.home.length (m.home.length + cap2)) (.slice a3 m.rocks.length (m.rocks.length + cap3)) (usT m l 0) (usE m l 0) 0 W3 HSP3.out HM3.out HV.out.1 (by omega) hub.1 (by omega) hub.2.2.1 (by omega))
            clear hin dl
            gi_wp2_with ((try refine ⟨trivial, ?_⟩); gi_at_call 89; refine (callsIn_wide.2 hwa.out).mono ?_; rintro r W4 ⟨⟨v, rfl⟩, hsp4, hO4⟩)
            have HP4 := Lib.hid (And.intro hsp4 hO4)
            clear hsp4 hO4
            gi_wp2
            go_roundw
            case rel =>
              refine ⟨0 + 1, by omega, by go_num, ?_, by rw [hwt.out.1, hwt.out.2]; exact HP4.out.1, fun b h1 h2 h3 => (HP4.out.2.block b (by omega) h2).trans (HKP3.out b h1 h2 h3), Nat.le_trans hz3 HP4.out.2.size⟩
              rw [upto_succ]
              exact hJ _ _ _ HJ3.out (HP4.out.2.move rfl ⟨_, HSP3.out, rfl⟩)
            case measure => simp [intOf]; omega
          · have dl : decide (((0 : Nat) : Int) ∈ l) = false := by simpa using hin
            rw [dl] at hlook
            have hwt : Hid (hdT m l (0 + 1) = usT m l 0 ∧ hdE m l (0 + 1) = usE m l 0) := by
              show hdT m l (0 + 1) = _ ∧ _
              simp only [hdT, hdE, waitT, hin, if_false, Int.mul_zero, Int.add_zero]; exact ⟨trivial, trivial⟩
            clear hin dl
            gi_wp2
            go_roundw
            case rel =>
              refine ⟨0 + 1, by omega, by go_num, ?_, by rw [hwt.out.1, hwt.out.2]; exact HSP3.out, HKP3.out, hz3⟩
              rw [upto_succ]
              exact HJ3.out
            case measure => simp [intOf]; omega
        · gi_wp2
          exact bodyPost_ret (v := .tuple #[]) (by simp [results, Try.f88]) rfl ⟨⟨_, rfl⟩, .inr ⟨_, ⟨0 + 1, by omega, (upto_succ _ _).symm⟩, hJx3⟩⟩
      | succ j =>
        have hg := Lib.hid (go1_any W.heap.size m (.slice a1 m.ways.length (m.ways.length + cap1)) (.slice a2 m.home.length (m.home.length + cap2)) (.slice a3 m.rocks.length (m.rocks.length + cap3)) (hdT m l (j + 1)) (hdE m l (j + 1)) j (j + 1) wr hsp HMH.out hV (by omega) hlt hb.1 (by omega) hb.2.2.1 (by omega))
        have HSPr := Lib.hid hsp
        have HJs := Lib.hid hJs
        have d2 : decide ((j : Int) + 1 > 0) = true := by rw [decide_eq_true_eq]; omega
        clear hsp hJs V hV hb
        gi_wp2_with ((try refine ⟨trivial, ?_⟩); gi_at_call 70; refine (callsIn_wide.2 hg.out).mono ?_; rintro r W2 ⟨⟨v, rfl⟩, hsp2, hO2⟩; have c0 : W2.cell? ⟨W.heap.size, 0, none⟩ = some (.int .i64 (hdT m l (j + 1) + tLeg m j (j + 1))) := cells_cell hsp2 (i := 0) rfl; have c1 : W2.cell? ⟨W.heap.size, 1, none⟩ = some (.int .i64 (hdE m l (j + 1) + eLeg m j (j + 1))) := cells_cell hsp2 (i := 1) rfl; have HP2 := Lib.hid (And.intro hsp2 hO2); have hz2 : W.heap.size + 1 ≤ W2.heap.size := Nat.le_trans hsz hO2.size; obtain ⟨fn, tmps, assign, body, hy, hR⟩ := hY _ (j + 1) _ (hJ _ _ _ HJs.out (hO2.move rfl ⟨_, HSPr.out, rfl⟩)) (by rw [upto_length]; omega) hz2; unfold encW at hy; rw [show (((j + 1 : Nat)) : Int) = (j : Int) + 1 by omega, (used_of_hd m l j).1, (used_of_hd m l j).2] at hy; clear hsp2 hO2)
        gi_wp2
        refine hR.mono ?_
        rintro e W3 (⟨rfl, hJ3, hk3⟩ | ⟨rfl, hJx3⟩)
        · have hsp3 := (hk3.2 _ p0).trans HP2.out.1
          have hz3 : W.heap.size + 1 ≤ W3.heap.size := Nat.le_trans hz2 hk3.1
          have hkp3 : ∀ b, p b → b ≠ W.heap.size → b < W.heap.size → W3.heap[b]? = W.heap[b]? := fun b h1 h2 h3 => (hk3.2 b h1).trans (((HP2.out.2.block b (by omega) h2)).trans (HKP.out b h1 h2 h3))
          have hbs : Boxed W3 Bs 80 (.map (some bm)) := (hkp3 Bs p2 (by omega) hslt).trans HSB.out
          have hst : SetAt W3 bm l := HSET.out.block (hkp3 bm p3 (by omega) hblt)
          have hlook : (Instr.lookup 80 (.map (some bm)) (.int .i64 ((j : Int) + 1)) false).run Try.prog W3 = .ok (.bool (decide (((j + 1 : Nat) : Int) ∈ l))) W3 := hst.look (k := ((j + 1) : Nat)) (i64_wf (by omega) (by omega))
          have hM3 := HM0.out.blocks (B := W3) (by omega) (fun b hb => hkp3 b (p4 b hb) (by omega) (by omega))
          have cbs := hbs.cell
          have HKP3 := Lib.hid hkp3
          have HSP3 := Lib.hid hsp3
          have HJ3 := Lib.hid hJ3
          have HM3 := Lib.hid (hM3.mono (by omega : n0 ≤ W3.heap.size))
          clear hkp3 hbs hst hM3 hJ3 hk3 hy hR hsp3
          by_cases hin : (((j + 1) : Nat) : Int) ∈ l
          · have dl : decide ((((j + 1) : Nat) : Int) ∈ l) = true := by simpa using hin
            rw [dl] at hlook
            have hwt : Hid (hdT m l ((j + 1) + 1) = usT m l (j + 1) + (wy m.ways (j + 1)).wait ∧ hdE m l ((j + 1) + 1) = usE m l (j + 1) + m.idle * (wy m.ways (j + 1)).wait) := by
              show hdT m l ((j + 1) + 1) = _ ∧ _
              simp only [hdT, hdE, waitT, hin, if_true]; exact ⟨trivial, trivial⟩
            have hwa := Lib.hid (wait_any W.heap.size m (.slice a1 m.ways.length (m.ways.length + cap1)) (.slice a2 m.home.length (m.home.length + cap2)) (.slice a3 m.rocks.length (m.rocks.length + cap3)) (usT m l (j + 1)) (usE m l (j + 1)) (j + 1) W3 HSP3.out HM3.out HV.out.1 (by omega) hub.1 (by omega) hub.2.2.1 (by omega))
            clear hin dl
            gi_wp2_with ((try refine ⟨trivial, ?_⟩); gi_at_call 89; refine (callsIn_wide.2 hwa.out).mono ?_; rintro r W4 ⟨⟨v, rfl⟩, hsp4, hO4⟩)
            have HP4 := Lib.hid (And.intro hsp4 hO4)
            clear hsp4 hO4
            gi_wp2
            go_roundw
            case rel =>
              refine ⟨(j + 1) + 1, by omega, by go_num, ?_, by rw [hwt.out.1, hwt.out.2]; exact HP4.out.1, fun b h1 h2 h3 => (HP4.out.2.block b (by omega) h2).trans (HKP3.out b h1 h2 h3), Nat.le_trans hz3 HP4.out.2.size⟩
              rw [upto_succ]
              exact hJ _ _ _ HJ3.out (HP4.out.2.move rfl ⟨_, HSP3.out, rfl⟩)
            case measure => simp [intOf]; omega
          · have dl : decide ((((j + 1) : Nat) : Int) ∈ l) = false := by simpa using hin
            rw [dl] at hlook
            have hwt : Hid (hdT m l ((j + 1) + 1) = usT m l (j + 1) ∧ hdE m l ((j + 1) + 1) = usE m l (j + 1)) := by
              show hdT m l ((j + 1) + 1) = _ ∧ _
              simp only [hdT, hdE, waitT, hin, if_false, Int.mul_zero, Int.add_zero]; exact ⟨trivial, trivial⟩
            clear hin dl
            gi_wp2
            go_roundw
            case rel =>
              refine ⟨(j + 1) + 1, by omega, by go_num, ?_, by rw [hwt.out.1, hwt.out.2]; exact HSP3.out, HKP3.out, hz3⟩
              rw [upto_succ]
              exact HJ3.out
            case measure => simp [intOf]; omega
        · gi_wp2
          exact bodyPost_ret (v := .tuple #[]) (by simp [results, Try.f88]) rfl ⟨⟨_, rfl⟩, .inr ⟨_, ⟨(j + 1) + 1, by omega, (upto_succ _ _).symm⟩, hJx3⟩⟩
    · obtain rfl : k = m.ways.length := by omega
      have d1 : decide ((m.ways.length : Int) < (m.ways.length : Int)) = false := by simp
      gi_wp2
      go_end0
      exact ⟨⟨_, rfl⟩, .inl ⟨_, rfl, hJs⟩⟩

/-- the ways, in order, with what is used up: all, or the first ones -/
theorem ways_seq (n : Nat) (hn : 1 ≤ n) (p : Nat → Nat → Prop) (m : Msn) (vw vh vr : Value) (l : List Int) (Bm Bs bm n0 : Nat) (w : World) (hV : validB m = true)
    (hm : MsnAt n0 w m vw vh vr) (hn0 : n0 ≤ w.heap.size) (hset : SetAt w bm l) (HM : Has w Bm (msnCells m vw vh vr) 26) (HS : Boxed w Bs 80 (.map (some bm)))
    (p0 : ∀ B, p B B) (p2 : ∀ B, p B Bs) (p3 : ∀ B, p B bm) (p4 : ∀ B b, b < n0 → p B b) :
    SeqM n Try.prog 88 #[.pointer (some ⟨Bm, 0, none⟩), .pointer (some ⟨Bs, 0, none⟩)] (encW m l) (fun B => KeepsP (p B)) (fun B r => r = B) 1 m.ways.length
      (fun ys => ys = upto id m.ways.length) (fun pre => ∃ j, j ≤ m.ways.length ∧ pre = upto id j) w := fun lp J Jx W hW hJ _ hY h0 =>
  ways1_in n hn (p W.heap.size) m vw vh vr l Bm Bs bm n0 W lp hV (hm.below (hW.mono hn0)) (Nat.le_trans hn0 hW.size) (hset.block (hW.block bm hset.lt)) (HM.below hW HM.lt) ((hW.block Bs HS.lt).trans HS)
    (p0 _) (p2 _) (p3 _) (p4 _) J Jx hJ hY h0
end Go.Proofs.Ytjnjmpakmgmdbaa
