/- Ways returns exactly the trysts at which they meet, in order. No condition. -/
import Derived.Test.YtdpnhckbabjagaaGreatBin31
import Derived.Test.YtdpnhckbabjagaaGreatBin28
import Derived.Test.YtdpnhckbabjagaaGreatBin29
import Derived.Test.YtdpnhckbabjagaaGreatBin07
namespace Go.Proofs.YtdpnhckbabjagaaGreat.trystWays
open Go.ChangeShapes Go.WideShapes Go.ChangeAt Go.RowKit
set_option linter.unusedVariables false
theorem own : ownKnob Tryz.prog.godebug = none := by kernel_rfl
theorem laidOut : laidOutB Tryz.prog = true := by kernel_rfl
attribute [local irreducible] wpQuiet

theorem trK_split (m : Msn) (l : List Int) (o : Msn) (lo : List Int) (R W : Int) {i n : Nat} (h : i ≤ n) : ∃ rest, trK m l o lo R W n = trK m l o lo R W i ++ rest ∧ ∀ t ∈ rest, ∃ j, i ≤ j ∧ t = wayOf o.ways.length j := by
  obtain ⟨d, rfl⟩ : ∃ d, n = i + d := ⟨n - i, by omega⟩
  clear h
  induction d with
  | zero => exact ⟨[], by simp, by simp⟩
  | succ d ih =>
    obtain ⟨rest, h1, h2⟩ := ih
    refine ⟨rest ++ [wayOf o.ways.length (i + d)].filter (fun t => meetB m l o lo t.1 t.2 R W), ?_, fun t ht => ?_⟩
    · rw [← List.append_assoc, ← h1]
      unfold trK
      rw [show i + (d + 1) = (i + d) + 1 by omega, upto_succ, List.filter_append]
    · rcases List.mem_append.1 ht with ht | ht
      · exact h2 t ht
      · have := (List.mem_filter.1 ht).1
        simp only [List.mem_cons, List.not_mem_nil, or_false] at this
        exact ⟨i + d, by omega, this⟩
theorem trK_get {m : Msn} {l : List Int} {o : Msn} {lo : List Int} {R W : Int} {k j n : Nat} (hj : j < o.ways.length) (h : k * o.ways.length + j < n) :
    (meetB m l o lo k j R W = true → (trK m l o lo R W n)[(trK m l o lo R W (k * o.ways.length + j)).length]? = some (k, j)) ∧
    (meetB m l o lo k j R W = false → ∀ t, (trK m l o lo R W n)[(trK m l o lo R W (k * o.ways.length + j)).length]? = some t → t ≠ (k, j)) := by
  obtain ⟨rest, h1, h2⟩ := trK_split m l o lo R W (i := k * o.ways.length + (j + 1)) (n := n) (by omega)
  have hs := trK_succ m l o lo R W (i := k) hj
  refine ⟨fun hm => ?_, fun hm t ht => ?_⟩
  · rw [h1, hs, hm]
    simp
  · rw [hm] at hs
    simp only [if_neg Bool.false_ne_true, List.append_nil] at hs
    rw [h1, hs, List.getElem?_append_right (Nat.le_refl _), Nat.sub_self] at ht
    obtain ⟨i, hi, rfl⟩ := h2 t (List.mem_of_getElem? ht)
    intro e
    simp only [wayOf, Prod.mk.injEq] at e
    have := Nat.div_add_mod i o.ways.length
    rw [e.1, e.2, Nat.mul_comm] at this
    omega
theorem ask_wask {m : Msn} {l : List Int} {o : Msn} {lo : List Int} {R W : Int} (h : waskB m l o lo R W = true) {k j : Nat} (hk : k < m.ways.length) (hj : j < o.ways.length) : askB m l o lo k j R W = true := by
  simp only [waskB, askB, Bool.and_eq_true, decide_eq_true_eq] at h ⊢
  exact ⟨h.1, h.2.1, ⟨by omega, by omega⟩, ⟨by omega, by omega⟩, h.2.2⟩

set_option linter.unusedSimpArgs false in
set_option linter.unusedVariables false in
set_option maxRecDepth 8000 in
set_option maxHeartbeats 6000000 in
theorem walk (w : World) (m : Msn) (vw vh vr : Value) (o : Msn) (vwo vho vro : Value) (vl : Value) (l : List Int) (vlo : Value) (lo : List Int) (R Wt : Int) (hm : MsnAt w.heap.size w m vw vh vr) (hmo : MsnAt w.heap.size w o vwo vho vro) (hl : IntsAt w.heap.size w vl l) (hlo : IntsAt w.heap.size w vlo lo) (hR : (Lit.int .i64 R).wf = true) (hWt : (Lit.int .i64 Wt).wf = true) :
    Calls Tryz.prog 6 #[.agg (msnCells m vw vh vr), .agg (msnCells o vwo vho vro), vl, vlo, .int .i64 R, .int .i64 Wt] w fun e w' => e = .returned (.bool true) ∧ Below w.heap.size w w' := by
  have f5 := fun w1 h1 h2 h3 h4 => tways_any m o vw vh vr vl vwo vho vro vlo l lo R Wt w1 h1 h2 h3 h4
  have f3 := fun (k j : Nat) w1 h1 h2 h3 h4 => tmeets_any m o vw vh vr vl vwo vho vro vlo l lo k j R Wt w1 h1 h2 h3 h4
  have MM := Lib.hid hm
  have ML := Lib.hid hl
  have OM := Lib.hid hmo
  have OL := Lib.hid hlo
  have ff := Lib.hid (fun w1 h1 h2 h3 h4 => few38_any m o vw vh vr vl vwo vho vro vlo l lo w1 h1 h2 h3 h4)
  have hd := Lib.hid (fun w1 => head38_any w1)
  obtain ⟨⟨-, a1, c1, rfl, -⟩, ⟨-, a2, c2, rfl, -⟩, ⟨-, a3, c3, rfl, -⟩⟩ := hm
  obtain ⟨⟨-, a1o, c1o, rfl, -⟩, ⟨-, a2o, c2o, rfl, -⟩, ⟨-, a3o, c3o, rfl, -⟩⟩ := hmo
  obtain ⟨-, al, cl, rfl, -⟩ := hl
  obtain ⟨-, alo, clo, rfl, -⟩ := hlo
  unfold msnCells at *
  replace f3 := Lib.hid f3
  have B0 := Lib.hid (Below.refl w.heap.size w)
  clear hR hWt
  cases hE : waskB m l o lo R Wt
  · have e1 : trL m l o lo R Wt = [] := by simp [trL, hE]
    rw [hE, e1, show errB false = 1 from rfl, show trRows R Wt [] = [] from rfl] at f5
    clear e1 hE f3
    replace f5 := Lib.hid f5
    go_enter Tryz.func6, Tryz.ntmps6
    go_wp2_with fail
    generalize hXX0 : World.alloc (World.alloc w _) _ = X0
    obtain ⟨q0, q1, hA, hzX0⟩ := box2 hXX0
    clear hXX0
    replace MM := Lib.hid ((MM.out.below hA).mono hA.size)
    replace ML := Lib.hid ((ML.out.below hA).mono hA.size)
    replace OM := Lib.hid ((OM.out.below hA).mono hA.size)
    replace OL := Lib.hid ((OL.out.below hA).mono hA.size)
    have MB := Lib.hid q0
    clear q0
    have OB := Lib.hid q1
    clear q1
    have BX0 := Lib.hid (B0.out.trans (hA.mono B0.out.size))
    clear hA
    obtain ⟨d0, d1, d2, d3, d4, d5, d6, d7, d8, d9, d10⟩ := msn_cells (m := m) MB.out
    obtain ⟨e0, e1, e2, e3, e4, e5, e6, e7, e8, e9, e10⟩ := msn_cells (m := o) OB.out
    refine (hd.out _).mono ?_
    rintro e w1 ⟨rfl, b1⟩
    have B1 := Lib.hid (BX0.out.trans (b1.mono BX0.out.size))
    replace MM := Lib.hid ((MM.out.below b1).mono b1.size)
    replace ML := Lib.hid ((ML.out.below b1).mono b1.size)
    replace OM := Lib.hid ((OM.out.below b1).mono b1.size)
    replace OL := Lib.hid ((OL.out.below b1).mono b1.size)
    replace MB := Lib.hid (MB.out.below b1 MB.out.lt)
    replace OB := Lib.hid (OB.out.below b1 OB.out.lt)
    clear b1
    clear d0 d1 d2 d3 d4 d5 d6 d7 d8 d9 d10 e0 e1 e2 e3 e4 e5 e6 e7 e8 e9 e10
    obtain ⟨d0, d1, d2, d3, d4, d5, d6, d7, d8, d9, d10⟩ := msn_cells (m := m) MB.out
    obtain ⟨e0, e1, e2, e3, e4, e5, e6, e7, e8, e9, e10⟩ := msn_cells (m := o) OB.out
    go_wp2_with fail
    refine (ff.out _ MM.out ML.out OM.out OL.out).mono ?_
    rintro e w2 ⟨rfl, b2⟩
    have B2 := Lib.hid (B1.out.trans (b2.mono B1.out.size))
    replace MM := Lib.hid ((MM.out.below b2).mono b2.size)
    replace ML := Lib.hid ((ML.out.below b2).mono b2.size)
    replace OM := Lib.hid ((OM.out.below b2).mono b2.size)
    replace OL := Lib.hid ((OL.out.below b2).mono b2.size)
    replace MB := Lib.hid (MB.out.below b2 MB.out.lt)
    replace OB := Lib.hid (OB.out.below b2 OB.out.lt)
    clear b2
    clear d0 d1 d2 d3 d4 d5 d6 d7 d8 d9 d10 e0 e1 e2 e3 e4 e5 e6 e7 e8 e9 e10
    obtain ⟨d0, d1, d2, d3, d4, d5, d6, d7, d8, d9, d10⟩ := msn_cells (m := m) MB.out
    obtain ⟨e0, e1, e2, e3, e4, e5, e6, e7, e8, e9, e10⟩ := msn_cells (m := o) OB.out
    cases hfew : few38B m l o lo
    · go_wp2
      go_ret
      exact ⟨rfl, B2.out⟩
    clear hfew
    go_wp2_with fail
    refine (f5.out _ MM.out ML.out OM.out OL.out).mono ?_
    rintro e w3 ⟨v3, rfl, p3, b3⟩
    have B3 := Lib.hid (B2.out.trans (b3.mono B2.out.size))
    replace MM := Lib.hid ((MM.out.below b3).mono b3.size)
    replace ML := Lib.hid ((ML.out.below b3).mono b3.size)
    replace OM := Lib.hid ((OM.out.below b3).mono b3.size)
    replace OL := Lib.hid ((OL.out.below b3).mono b3.size)
    replace MB := Lib.hid (MB.out.below b3 MB.out.lt)
    replace OB := Lib.hid (OB.out.below b3 OB.out.lt)
    obtain ⟨-, g3, k3, hv3, -⟩ := p3
    subst hv3
    simp only [List.length_nil]
    clear b3
    clear d0 d1 d2 d3 d4 d5 d6 d7 d8 d9 d10 e0 e1 e2 e3 e4 e5 e6 e7 e8 e9 e10
    obtain ⟨d0, d1, d2, d3, d4, d5, d6, d7, d8, d9, d10⟩ := msn_cells (m := m) MB.out
    obtain ⟨e0, e1, e2, e3, e4, e5, e6, e7, e8, e9, e10⟩ := msn_cells (m := o) OB.out
    go_wp2
    go_ret
    exact ⟨rfl, B3.out⟩
  have e1 : trL m l o lo R Wt = trK m l o lo R Wt (m.ways.length * o.ways.length) := if_pos hE
  rw [hE, e1, show errB true = 0 from rfl] at f5
  have HE := Lib.hid hE
  have hbb := hE
  simp only [waskB, Bool.and_eq_true] at hbb
  have n41 := ((validB_iff m).1 (by simpa [radOkB] using hbb.1 : validB m = true ∧ stopsB m l = true).1).n41
  have n41o := ((validB_iff o).1 (by simpa [radOkB] using hbb.2.1 : validB o = true ∧ stopsB o lo = true).1).n41
  have hNL : m.ways.length * o.ways.length ≤ 41 * 41 := Nat.mul_le_mul n41 n41o
  clear hE hbb e1
  replace f5 := Lib.hid f5
  go_enter Tryz.func6, Tryz.ntmps6
  go_wp2_with fail
  generalize hXX0 : World.alloc (World.alloc w _) _ = X0
  obtain ⟨q0, q1, hA, hzX0⟩ := box2 hXX0
  clear hXX0
  replace MM := Lib.hid ((MM.out.below hA).mono hA.size)
  replace ML := Lib.hid ((ML.out.below hA).mono hA.size)
  replace OM := Lib.hid ((OM.out.below hA).mono hA.size)
  replace OL := Lib.hid ((OL.out.below hA).mono hA.size)
  have MB := Lib.hid q0
  clear q0
  have OB := Lib.hid q1
  clear q1
  have BX0 := Lib.hid (B0.out.trans (hA.mono B0.out.size))
  clear hA
  obtain ⟨d0, d1, d2, d3, d4, d5, d6, d7, d8, d9, d10⟩ := msn_cells (m := m) MB.out
  obtain ⟨e0, e1, e2, e3, e4, e5, e6, e7, e8, e9, e10⟩ := msn_cells (m := o) OB.out
  refine (hd.out _).mono ?_
  rintro e w1 ⟨rfl, b1⟩
  have B1 := Lib.hid (BX0.out.trans (b1.mono BX0.out.size))
  replace MM := Lib.hid ((MM.out.below b1).mono b1.size)
  replace ML := Lib.hid ((ML.out.below b1).mono b1.size)
  replace OM := Lib.hid ((OM.out.below b1).mono b1.size)
  replace OL := Lib.hid ((OL.out.below b1).mono b1.size)
  replace MB := Lib.hid (MB.out.below b1 MB.out.lt)
  replace OB := Lib.hid (OB.out.below b1 OB.out.lt)
  clear b1
  clear d0 d1 d2 d3 d4 d5 d6 d7 d8 d9 d10 e0 e1 e2 e3 e4 e5 e6 e7 e8 e9 e10
  obtain ⟨d0, d1, d2, d3, d4, d5, d6, d7, d8, d9, d10⟩ := msn_cells (m := m) MB.out
  obtain ⟨e0, e1, e2, e3, e4, e5, e6, e7, e8, e9, e10⟩ := msn_cells (m := o) OB.out
  go_wp2_with fail
  refine (ff.out _ MM.out ML.out OM.out OL.out).mono ?_
  rintro e w2 ⟨rfl, b2⟩
  have B2 := Lib.hid (B1.out.trans (b2.mono B1.out.size))
  replace MM := Lib.hid ((MM.out.below b2).mono b2.size)
  replace ML := Lib.hid ((ML.out.below b2).mono b2.size)
  replace OM := Lib.hid ((OM.out.below b2).mono b2.size)
  replace OL := Lib.hid ((OL.out.below b2).mono b2.size)
  replace MB := Lib.hid (MB.out.below b2 MB.out.lt)
  replace OB := Lib.hid (OB.out.below b2 OB.out.lt)
  clear b2
  clear d0 d1 d2 d3 d4 d5 d6 d7 d8 d9 d10 e0 e1 e2 e3 e4 e5 e6 e7 e8 e9 e10
  obtain ⟨d0, d1, d2, d3, d4, d5, d6, d7, d8, d9, d10⟩ := msn_cells (m := m) MB.out
  obtain ⟨e0, e1, e2, e3, e4, e5, e6, e7, e8, e9, e10⟩ := msn_cells (m := o) OB.out
  cases hfew : few38B m l o lo
  · go_wp2
    go_ret
    exact ⟨rfl, B2.out⟩
  clear hfew
  go_wp2_with fail
  refine (f5.out _ MM.out ML.out OM.out OL.out).mono ?_
  rintro e w3 ⟨v3, rfl, p3, b3⟩
  have B3 := Lib.hid (B2.out.trans (b3.mono B2.out.size))
  replace MM := Lib.hid ((MM.out.below b3).mono b3.size)
  replace ML := Lib.hid ((ML.out.below b3).mono b3.size)
  replace OM := Lib.hid ((OM.out.below b3).mono b3.size)
  replace OL := Lib.hid ((OL.out.below b3).mono b3.size)
  replace MB := Lib.hid (MB.out.below b3 MB.out.lt)
  replace OB := Lib.hid (OB.out.below b3 OB.out.lt)
  have HLn : (trRows R Wt (trK m l o lo R Wt (m.ways.length * o.ways.length))).length = (trK m l o lo R Wt (m.ways.length * o.ways.length)).length := by simp [trRows]
  have HL := Lib.hid p3
  obtain ⟨-, ga, gc, hv3, -⟩ := p3
  rw [HLn] at hv3
  subst hv3
  have hlN := trK_len m l o lo R Wt (m.ways.length * o.ways.length)
  obtain ⟨LL, hLL⟩ : ∃ x, x = (trK m l o lo R Wt (m.ways.length * o.ways.length)) := ⟨_, rfl⟩
  rw [← hLL] at HL HLn hlN ⊢
  have HLL := Lib.hid hLL
  clear hLL
  clear b3
  clear d0 d1 d2 d3 d4 d5 d6 d7 d8 d9 d10 e0 e1 e2 e3 e4 e5 e6 e7 e8 e9 e10
  obtain ⟨d0, d1, d2, d3, d4, d5, d6, d7, d8, d9, d10⟩ := msn_cells (m := m) MB.out
  obtain ⟨e0, e1, e2, e3, e4, e5, e6, e7, e8, e9, e10⟩ := msn_cells (m := o) OB.out
  go_wp2
  clear d0 d1 d2 d3 d4 d5 d6 d7 d8 d9 d10 e0 e1 e2 e3 e4 e5 e6 e7 e8 e9 e10
  go_loopw [13, 16, 51] (fun vu vc vi wr => ∃ k : Nat, k ≤ m.ways.length ∧ vu = .bool true ∧ vc = .int .i64 ((trK m l o lo R Wt (k * o.ways.length)).length : Int) ∧ vi = .int .i64 (k : Int) ∧ Below w3.heap.size w3 wr) (fun _ _ vi _ => m.ways.length - (intOf vi).toNat)
  case atStart => exact ⟨0, by omega, rfl, by rw [Nat.zero_mul]; rfl, rfl, Below.refl _ _⟩
  case round =>
    obtain ⟨k, hk, rfl, rfl, rfl, hB⟩ := hrel
    by_cases hlt : k < m.ways.length
    · have dk : decide ((k : Int) < (m.ways.length : Int)) = true := by rw [decide_eq_true_eq]; omega
      have c0 := (OB.out.below hB OB.out.lt).cell (i := 0) rfl
      have HB := Lib.hid hB
      obtain ⟨wq, hwq⟩ : ∃ x, x = wr := ⟨_, rfl⟩
      subst hwq
      obtain ⟨cz, hcz⟩ : ∃ x, x = (trK m l o lo R Wt (k * o.ways.length)).length := ⟨_, rfl⟩
      rw [← hcz]
      have HCZ := Lib.hid hcz
      clear hB hcz
      go_wp2
      clear c0
      go_loopw [13, 16, 57] (fun vu vc vi wr => ∃ j : Nat, j ≤ o.ways.length ∧ vu = .bool true ∧ vc = .int .i64 ((trK m l o lo R Wt (k * o.ways.length + j)).length : Int) ∧ vi = .int .i64 (j : Int) ∧ Below w3.heap.size w3 wr) (fun _ _ vi _ => o.ways.length - (intOf vi).toNat)
      case atStart => exact ⟨0, by omega, rfl, by rw [HCZ.out]; rfl, rfl, HB.out⟩
      case round =>
        obtain ⟨j, hj, rfl, rfl, rfl, hB⟩ := hrel
        have hzB := hB.size
        by_cases hlj : j < o.ways.length
        · have dj : decide ((j : Int) < (o.ways.length : Int)) = true := by rw [decide_eq_true_eq]; omega
          have hkj : k * o.ways.length + j < m.ways.length * o.ways.length := by
            have : (k + 1) * o.ways.length ≤ m.ways.length * o.ways.length := Nat.mul_le_mul_right _ (by omega)
            rw [Nat.succ_mul] at this; omega
          have hst := trK_succ m l o lo R Wt (i := k) hlj
          have hgt := trK_get (m := m) (l := l) (lo := lo) (R := R) (W := Wt) hlj hkj
          rw [← HLL.out] at hgt
          have hcn := trK_len m l o lo R Wt (k * o.ways.length + j)
          have hask := ask_wask HE.out hlt hlj
          have hst2 : Hid ((trK m l o lo R Wt (k * o.ways.length + (j + 1))).length = (trK m l o lo R Wt (k * o.ways.length + j)).length + (if meetB m l o lo k j R Wt = true then 1 else 0)) := by
            show _ = _
            rw [hst, List.length_append]; split <;> simp
          clear hst
          generalize (trK m l o lo R Wt (k * o.ways.length + j)).length = cn at *
          have f6 := f3.out k j
          rw [hask, show errB true = 0 from rfl, show ((k : Int)).toNat = k from rfl, show ((j : Int)).toNat = j from rfl, Bool.true_and] at f6
          have hBA : Below wr.heap.size wr (wr.alloc (.cells #[.int .i64 (k : Int), .int .i64 (j : Int), .int .i64 R, .int .i64 Wt] 29)) := (Below.refl _ _).alloc (Nat.le_refl _) _
          have hBa := hB.trans (hBA.mono hzB)
          have HN := Has.new wr #[.int .i64 (k : Int), .int .i64 (j : Int), .int .i64 R, .int .i64 Wt] 29
          have HNH := Lib.hid HN
          obtain ⟨d0, d1, d2, d3, d4, d5, d6, d7, d8, d9, d10⟩ := msn_cells (m := m) (MB.out.below hBa MB.out.lt)
          obtain ⟨e0, e1, e2, e3, e4, e5, e6, e7, e8, e9, e10⟩ := msn_cells (m := o) (OB.out.below hBa OB.out.lt)
          have g := Lib.hid (f6 _ ((MM.out.below hBa).mono hBa.size) ((ML.out.below hBa).mono hBa.size) ((OM.out.below hBa).mono hBa.size) ((OL.out.below hBa).mono hBa.size))
          have HBa := Lib.hid hBa
          have HGT := Lib.hid hgt
          clear hB hBA hBa f6 hask HN hgt
          go_wp2_with fail
          refine g.out.mono ?_
          rintro e w7 ⟨rfl, b7⟩
          have B7 := Lib.hid (HBa.out.trans (b7.mono HBa.out.size))
          have N7 := HNH.out.below b7 HNH.out.lt
          have y0 := Low.fact (N7.cell (i := 0) rfl)
          have y1 := Low.fact (N7.cell (i := 1) rfl)
          have y2 := Low.fact (N7.cell (i := 2) rfl)
          have y3 := Low.fact (N7.cell (i := 3) rfl)
          have hc0 : (0 : Int) ≤ cn := by omega
          have wc : IntKind.i64.wrap ((cn : Int) + 1) = (cn : Int) + 1 := IntWalk.i64_in _ (by omega)
          clear b7 N7 HNH d0 e0 d1 e1 d2 e2 d3 e3 d4 e4 d5 e5 d6 e6 d7 e7 d8 e8 d9 e9 d10 e10
          generalize hmb : meetB m l o lo k j R Wt = mb at *
          cases mb
          · skip
            have HS := Lib.hid hst2.out
            by_cases hcl : cn < LL.length
            · obtain ⟨⟨s, t⟩, hg⟩ : ∃ t, LL[cn]? = some t := ⟨_, List.getElem?_eq_getElem hcl⟩
              have hne := HGT.out.2 rfl _ hg
              have hcl' : (cn : Int) < LL.length := by omega
              have dc : decide ((cn : Int) < (LL.length : Int)) = true := by rw [decide_eq_true_eq]; omega
              have hrw : (trRows R Wt LL)[cn]? = some (tryC s t R Wt).toList := by simp [trRows, hg]
              have hLne : trRows R Wt LL ≠ [] := by intro h; rw [h] at hrw; simp at hrw
              obtain ⟨-, a9, c9, e9, hc9⟩ := HL.out
              rw [HLn] at e9
              simp only [Value.slice.injEq, true_and, Nat.add_left_cancel_iff] at e9
              obtain ⟨rfl, rfl⟩ := e9
              obtain ⟨b1, o1, rfl, hb1, hc1⟩ := hc9.resolve_left hLne
              have x0 := Low.fact ((B7.out.cell (p := ⟨b1, o1 + cn * 4 + 0, none⟩) hb1).trans (hc1 cn _ hrw 0 _ rfl))
              have x1 := Low.fact ((B7.out.cell (p := ⟨b1, o1 + cn * 4 + 1, none⟩) hb1).trans (hc1 cn _ hrw 1 _ rfl))
              have x2 := Low.fact ((B7.out.cell (p := ⟨b1, o1 + cn * 4 + 2, none⟩) hb1).trans (hc1 cn _ hrw 2 _ rfl))
              have x3 := Low.fact ((B7.out.cell (p := ⟨b1, o1 + cn * 4 + 3, none⟩) hb1).trans (hc1 cn _ hrw 3 _ rfl))
              rw [Nat.add_zero] at x0
              clear hc1 hc9 hLne
              clear hg HGT hst2 hrw hmb
              by_cases hs : s = k
              · subst hs
                have ht : ¬ (t : Int) = (j : Int) := by intro e; exact hne (by rw [show t = j by omega])
                clear hne
                go_wp2
                (refine wp_region_low (by kernel_rfl) (by kernel_rfl) ?_; (iterate 22 (apply quiet_want; (case hw => rfl); (case hval => (intro w1 hw1; have hcx := Low.cells hw1; simp only [Oper.quietAt]; go_simp; first | done | (first | fail) | rfl | exact ⟨rfl, rfl⟩)); simp only [Act.put, List.setIfInBounds_toArray, List.set_cons_zero, List.set_cons_succ])); refine wpQuiet_nil ?_; intro w2 hw2)
                have BZ := Lib.hid (B7.out.trans (hw2.out.mono B7.out.size))
                clear hw2 x0 x1 x2 x3 y0 y1 y2 y3
                go_wp2
                go_roundw
                case rel => exact ⟨j + 1, by omega, by simp [ht], by rw [HS.out]; simp, by go_num, BZ.out⟩
                case measure => simp [intOf]; omega
              · have hs2 : ¬ (s : Int) = (k : Int) := by omega
                clear hne
                go_wp2
                (refine wp_region_low (by kernel_rfl) (by kernel_rfl) ?_; (iterate 22 (apply quiet_want; (case hw => rfl); (case hval => (intro w1 hw1; have hcx := Low.cells hw1; simp only [Oper.quietAt]; go_simp; first | done | (first | fail) | rfl | exact ⟨rfl, rfl⟩)); simp only [Act.put, List.setIfInBounds_toArray, List.set_cons_zero, List.set_cons_succ])); refine wpQuiet_nil ?_; intro w2 hw2)
                have BZ := Lib.hid (B7.out.trans (hw2.out.mono B7.out.size))
                clear hw2 x0 x1 x2 x3 y0 y1 y2 y3
                go_wp2
                go_roundw
                case rel => exact ⟨j + 1, by omega, by simp [hs], by rw [HS.out]; simp, by go_num, BZ.out⟩
                case measure => simp [intOf]; omega
            · have dc : decide ((cn : Int) < (LL.length : Int)) = false := by rw [decide_eq_false_iff_not]; omega
              clear HGT hst2 hmb
              go_wp2
              (refine wp_region_low (by kernel_rfl) (by kernel_rfl) ?_; (iterate 12 (apply quiet_want; (case hw => rfl); (case hval => (intro w1 hw1; have hcx := Low.cells hw1; simp only [Oper.quietAt]; go_simp; first | done | (first | fail) | rfl | exact ⟨rfl, rfl⟩)); simp only [Act.put, List.setIfInBounds_toArray, List.set_cons_zero, List.set_cons_succ])); (iterate 6 (apply quiet_skip; (case hw => rfl); simp only [Act.put, List.setIfInBounds_toArray, List.set_cons_zero, List.set_cons_succ])); (iterate 4 (apply quiet_want; (case hw => rfl); (case hval => (intro w1 hw1; have hcx := Low.cells hw1; simp only [Oper.quietAt]; go_simp; first | done | (first | fail) | rfl | exact ⟨rfl, rfl⟩)); simp only [Act.put, List.setIfInBounds_toArray, List.set_cons_zero, List.set_cons_succ])); refine wpQuiet_nil ?_; intro w2 hw2)
              have BZ := Lib.hid (B7.out.trans (hw2.out.mono B7.out.size))
              clear hw2 y0 y1 y2 y3
              go_wp2
              go_roundw
              case rel => exact ⟨j + 1, by omega, rfl, by rw [HS.out]; simp, by go_num, BZ.out⟩
              case measure => simp [intOf]; omega
          · have hg := HGT.out.1 rfl
            have hcl : cn < LL.length := (List.getElem?_eq_some_iff.1 hg).1
            have hcl' : (cn : Int) < LL.length := by omega
            have dc : decide ((cn : Int) < (LL.length : Int)) = true := by rw [decide_eq_true_eq]; omega
            have hrw : (trRows R Wt LL)[cn]? = some (tryC k j R Wt).toList := by simp [trRows, hg]
            have HS := Lib.hid hst2.out
            have hLne : trRows R Wt LL ≠ [] := by intro h; rw [h] at hrw; simp at hrw
            obtain ⟨-, a9, c9, e9, hc9⟩ := HL.out
            rw [HLn] at e9
            simp only [Value.slice.injEq, true_and, Nat.add_left_cancel_iff] at e9
            obtain ⟨rfl, rfl⟩ := e9
            obtain ⟨b1, o1, rfl, hb1, hc1⟩ := hc9.resolve_left hLne
            have x0 := Low.fact ((B7.out.cell (p := ⟨b1, o1 + cn * 4 + 0, none⟩) hb1).trans (hc1 cn _ hrw 0 _ rfl))
            have x1 := Low.fact ((B7.out.cell (p := ⟨b1, o1 + cn * 4 + 1, none⟩) hb1).trans (hc1 cn _ hrw 1 _ rfl))
            have x2 := Low.fact ((B7.out.cell (p := ⟨b1, o1 + cn * 4 + 2, none⟩) hb1).trans (hc1 cn _ hrw 2 _ rfl))
            have x3 := Low.fact ((B7.out.cell (p := ⟨b1, o1 + cn * 4 + 3, none⟩) hb1).trans (hc1 cn _ hrw 3 _ rfl))
            rw [Nat.add_zero] at x0
            clear hc1 hc9 hLne
            clear hg HGT hst2 hrw hmb
            go_wp2
            (refine wp_region_low (by kernel_rfl) (by kernel_rfl) ?_; (iterate 22 (apply quiet_want; (case hw => rfl); (case hval => (intro w1 hw1; have hcx := Low.cells hw1; simp only [Oper.quietAt]; go_simp; first | done | (first | fail) | rfl | exact ⟨rfl, rfl⟩)); simp only [Act.put, List.setIfInBounds_toArray, List.set_cons_zero, List.set_cons_succ])); refine wpQuiet_nil ?_; intro w2 hw2)
            have BZ := Lib.hid (B7.out.trans (hw2.out.mono B7.out.size))
            clear hw2 x0 x1 x2 x3 y0 y1 y2 y3
            go_wp2
            go_roundw
            case rel => exact ⟨j + 1, by omega, rfl, by rw [HS.out]; simp, by go_num, BZ.out⟩
            case measure => simp [intOf]; omega
        · obtain rfl : j = o.ways.length := by omega
          have dj : decide ((o.ways.length : Int) < (o.ways.length : Int)) = false := by simp
          have HB := Lib.hid hB
          have e9 : (trK m l o lo R Wt (k * o.ways.length + o.ways.length)).length = (trK m l o lo R Wt ((k + 1) * o.ways.length)).length := by rw [Nat.succ_mul]
          have HE9 := Lib.hid e9
          obtain ⟨cz, hcz⟩ : ∃ x, x = (trK m l o lo R Wt (k * o.ways.length + o.ways.length)).length := ⟨_, rfl⟩
          rw [← hcz]
          have HCZ := Lib.hid hcz
          clear hB hcz e9
          go_wp2
          go_roundw
          case rel => exact ⟨k + 1, by omega, rfl, by rw [HCZ.out, HE9.out], by go_num, HB.out⟩
          case measure => simp [intOf]; omega
    · obtain rfl : k = m.ways.length := by omega
      have dk : decide ((m.ways.length : Int) < (m.ways.length : Int)) = false := by simp
      have BZ := Lib.hid (B3.out.trans (hB.mono B3.out.size))
      have e9 : (trK m l o lo R Wt (m.ways.length * o.ways.length)).length = LL.length := by rw [HLL.out]
      rw [e9]
      have e8 : ((LL.length : Int) == (LL.length : Int)) = true := by simp
      clear hB e9
      go_wp2
      go_ret
      exact ⟨by simp, BZ.out⟩


set_option maxRecDepth 100000 in
theorem lifted (os : Os) (started : os.Started) (H : Type) (enc : TypeId × Value → H) :
    ReturnsInHanded {} Tryz.checked os 6 .any (Rows.trystWaysSpec.pre6 enc Tryz.prog Tryz.f6 Rows.trystWaysRow.domain false) (Rows.trystWaysSpec.post enc Tryz.prog Tryz.f6 false true false false) := by
  refine returnsInHanded_of_change_sized (C := Tryz.checked) own started (by kernel_rfl) Tryz.func6
    (ChangeSpec.witness6 (enc := enc) (C := Tryz.checked) false ⟨#[], #[.agg #[.slice none 0 0, .slice none 0 0, .int .i64 0, .slice none 0 0, .int .i64 0, .int .i64 0, .int .i64 0, .int .i64 0, .int .i64 0, .int .i64 0, .int .i64 0], .agg #[.slice none 0 0, .slice none 0 0, .int .i64 0, .slice none 0 0, .int .i64 0, .int .i64 0, .int .i64 0, .int .i64 0, .int .i64 0, .int .i64 0, .int .i64 0], .slice none 0 0, .slice none 0 0, .int .i64 0, .int .i64 0], []⟩ 8 (by kernel_rfl) (by kernel_rfl) (by kernel_rfl) (by kernel_rfl)) ?_
  intro W base args ds gs before hval0 hW hcnd hsz0 _
  have hval : ∀ (j : Nat) t v, Tryz.f6.params[j]? = some t → args[j]? = some v → Value.okWide Tryz.prog W .any base t v := hval0
  have hW' := hW
  obtain ⟨p, q, hA0, hV, rfl, hfz, hnd⟩ := hW
  have hA : DataW.TrodAll enc Tryz.prog W 0 (fun _ => true) true Tryz.f6.params.toList args.toList ds p := hA0
  have hsz : (DataW.weightsEach Tryz.prog (Tryz.f6.params.toList ++ Rows.trystWaysSpec.plain.varTypes Tryz.prog) (ds ++ gs)).all (· ≤ reachBytes) = true := hsz0
  rw [Tryz.params6] at hA hval hsz
  obtain ⟨v0, vs0, d0, ds0, p0, q0, hargs, rfl, rfl, h0, r0⟩ := trodAll_cons hA
  obtain ⟨v1, vs1, d1, ds1, p1, q1, rfl, rfl, rfl, h1, r1⟩ := trodAll_cons r0
  obtain ⟨v2, vs2, d2, ds2, p2, q2, rfl, rfl, rfl, h2, r2⟩ := trodAll_cons r1
  obtain ⟨v3, vs3, d3, ds3, p3, q3, rfl, rfl, rfl, h3, r3⟩ := trodAll_cons r2
  obtain ⟨v4, vs4, d4, ds4, p4, q4, rfl, rfl, rfl, h4, r4⟩ := trodAll_cons r3
  obtain ⟨v5, vs5, d5, ds5, p5, q5, rfl, rfl, rfl, h5, r5⟩ := trodAll_cons r4
  obtain ⟨rfl, rfl, rfl⟩ := trodAll_nil r5
  obtain rfl : args = #[v0, v1, v2, v3, v4, v5] := by cases args; simp_all
  obtain ⟨rfl, rfl⟩ := trodVars_none hV
  have k0 := h0
  have lt0 : ∀ x ∈ p0, x.block < W.heap.size := by obtain ⟨m, hm⟩ := k0; exact DataW.trod_lt m _ _ _ hm
  have z0 : ∀ n ∈ d0.weights Tryz.prog 26, n ≤ reachBytes := fun n hn => by have := List.all_eq_true.1 hsz n (DataW.weights_mem_each (j := 0) (t := 26) (d := d0) rfl rfl n hn); simpa using this
  obtain ⟨a0, vw0, vh0, vr0, rfl, w0⟩ := open_msn (hval 0 26 v0 rfl rfl) h0 z0
  have k1 := h1
  have lt1 : ∀ x ∈ p1, x.block < W.heap.size := by obtain ⟨m, hm⟩ := k1; exact DataW.trod_lt m _ _ _ hm
  have z1 : ∀ n ∈ d1.weights Tryz.prog 26, n ≤ reachBytes := fun n hn => by have := List.all_eq_true.1 hsz n (DataW.weights_mem_each (j := 1) (t := 26) (d := d1) rfl rfl n hn); simpa using this
  obtain ⟨a1, vw1, vh1, vr1, rfl, w1⟩ := open_msn (hval 1 26 v1 rfl rfl) h1 z1
  have k2 := h2
  have lt2 : ∀ x ∈ p2, x.block < W.heap.size := by obtain ⟨m, hm⟩ := k2; exact DataW.trod_lt m _ _ _ hm
  have z2 : ∀ n ∈ d2.weights Tryz.prog 27, n ≤ reachBytes := fun n hn => by have := List.all_eq_true.1 hsz n (DataW.weights_mem_each (j := 2) (t := 27) (d := d2) rfl rfl n hn); simpa using this
  obtain ⟨a2, w2⟩ := open_ints_arg (hval 2 27 v2 rfl rfl) h2 z2
  have k3 := h3
  have lt3 : ∀ x ∈ p3, x.block < W.heap.size := by obtain ⟨m, hm⟩ := k3; exact DataW.trod_lt m _ _ _ hm
  have z3 : ∀ n ∈ d3.weights Tryz.prog 27, n ≤ reachBytes := fun n hn => by have := List.all_eq_true.1 hsz n (DataW.weights_mem_each (j := 3) (t := 27) (d := d3) rfl rfl n hn); simpa using this
  obtain ⟨a3, w3⟩ := open_ints_arg (hval 3 27 v3 rfl rfl) h3 z3
  obtain ⟨a4, rfl, rfl, rfl, w4⟩ := open_int Tryz.underlying3 (hval 4 3 v4 rfl rfl) h4
  obtain ⟨a5, rfl, rfl, rfl, w5⟩ := open_int Tryz.underlying3 (hval 5 3 v5 rfl rfl) h5
  clear hA0 hval0
  refine (walk W a0 vw0 vh0 vr0 a1 vw1 vh1 vr1 v2 a2 v3 a3 a4 a5 w0 w1 w2 w3 w4 w5).mono fun e W' ⟨he, bel⟩ => ?_
  subst he
  exact ⟨_, rfl, _, _, _, [], _, [], hW', trodAll_mk1 (shut_bool Tryz.underlying4 _), (trodAll_cons_mk (Below.trod laidOut (by kernel_rfl) (of_decide_eq_true (by kernel_rfl)) k0 bel lt0) (trodAll_cons_mk (Below.trod laidOut (by kernel_rfl) (of_decide_eq_true (by kernel_rfl)) k1 bel lt1) (trodAll_cons_mk (Below.trod laidOut (by kernel_rfl) (of_decide_eq_true (by kernel_rfl)) k2 bel lt2) (trodAll_cons_mk (Below.trod laidOut (by kernel_rfl) (of_decide_eq_true (by kernel_rfl)) k3 bel lt3) (trodAll_cons_mk (shut_int Tryz.underlying3 w4) (trodAll_cons_mk (shut_int Tryz.underlying3 w5) trodAll_mk0)))))), rfl, bel.frame _, fun h => by cases h⟩

theorem over : Rows.trystWaysRow.holds Tryz.pinned (OpenSpec.ofChange Rows.trystWaysSpec) :=
  OpenClaim.holds_of_wide 6 Tryz.f6 rfl rfl rfl rfl rfl rfl rfl ⟨rfl, rfl, rfl, rfl, rfl⟩ rfl rfl rfl rfl rfl (by kernel_rfl) Tryz.func6 (by kernel_rfl)
    (of_decide_eq_true (by kernel_rfl)) (by unfold Func.isWrapper; first | (rw [if_pos (by decide +kernel)]; kernel_rfl) | (rw [if_neg (by decide +kernel)]; exact ⟨rfl, rfl⟩))
    (fun os started H enc _ => lifted os started H enc)

/-- the statement -/
theorem proved : Rows.TrystWaysSaid := over
#print axioms proved
end Go.Proofs.YtdpnhckbabjagaaGreat.trystWays
