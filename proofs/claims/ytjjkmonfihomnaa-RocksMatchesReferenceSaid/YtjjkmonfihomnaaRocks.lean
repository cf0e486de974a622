/- package rocks: First, Hit. -/
import Derived.Test.YtjjkmonfihomnaaCommon
import Derived.WalkMore
namespace Go.Proofs.Ytjjkmonfihomnaa
open Go.RowKit
attribute [local irreducible] wpQuiet

/-- the first of the first k rocks that touches a corridor -/
noncomputable def hitTo (c : List Pt) (ls : List (List Pt)) : Nat → Option Nat
  | 0 => none
  | k + 1 => if (hitTo c ls k).isSome = true then hitTo c ls k else if touchB c (rk ls k) = true then some k else none
def natO (o : Option Nat) : Int := match o with | some k => k | none => 0
open Classical in
noncomputable def okRocks (c : List Pt) (ls : List (List Pt)) : Bool := goValid c && decide (∀ j, j < ls.length → goValid (rk ls j) = true)
noncomputable def firI (c : List Pt) (ls : List (List Pt)) : Int := if ls.length ≤ 100 ∧ okRocks c ls = true then natO (hitTo c ls ls.length) else 0
noncomputable def firB (c : List Pt) (ls : List (List Pt)) : Bool := if ls.length ≤ 100 ∧ okRocks c ls = true then (hitTo c ls ls.length).isSome else false
noncomputable def firE (c : List Pt) (ls : List (List Pt)) : Int := if ls.length ≤ 100 then (if okRocks c ls = true then 0 else 1) else 2
theorem fir_bad {c : List Pt} {ls : List (List Pt)} (h : ls.length ≤ 100) (hk : okRocks c ls = false) : firI c ls = 0 ∧ firB c ls = false ∧ firE c ls = 1 := by
  unfold firI firB firE
  simp [h, hk]

set_option linter.unusedSimpArgs false in
set_option maxRecDepth 4000 in
set_option maxHeartbeats 1600000 in
theorem first_any (vc vr : Value) (c : List Pt) (ls : List (List Pt)) (w : World) (hc : PtsAt w.heap.size w vc c) (hr : RocksAt w.heap.size w vr ls) :
    Calls Try.prog 15 #[vc, vr] w fun e w' => e = .returned (.tuple #[.int .i64 (firI c ls), .bool (firB c ls), .int .i64 (firE c ls)]) ∧ Below w.heap.size w w' := by
  obtain ⟨_, ar, capr, rfl, hrc⟩ := hr
  by_cases hbig : 100 < ls.length
  · have d1 : decide ((ls.length : Int) > 100) = true := by rw [decide_eq_true_eq]; omega
    have HR := Lib.hid (show firI c ls = 0 ∧ firB c ls = false ∧ firE c ls = 2 by unfold firI firB firE; simp [show ¬ ls.length ≤ 100 by omega])
    obtain ⟨ap, capp, rfl⟩ := hc.len
    clear hbig hrc hc
    go_enter Try.func15, Try.ntmps15
    go_wp2
    go_step3
    go_wp2
    (try rw [Exit.noGoto_ret]); go_ret3
    exact ⟨by rw [HR.out.1, HR.out.2.1, HR.out.2.2]; rfl, Below.refl _ _⟩
  · have d1 : decide ((ls.length : Int) > 100) = false := by rw [decide_eq_false_iff_not]; omega
    have hle : ls.length ≤ 100 := by omega
    have f1 := Lib.hid (fun w1 (B : Below w.heap.size w w1) => touching_any vc c w1 ((hc.below B).mono B.size))
    have f2 := Lib.hid (fun w1 (B : Below w.heap.size w w1) => hullValid_any vc c w1 ((hc.below B).mono B.size))
    have HP := Lib.hid hc
    obtain ⟨ap, capp, rfl⟩ := hc.len
    have HRC := Lib.hid hrc
    have hA := (Below.refl w.heap.size w).alloc (Nat.le_refl _) (.cells #[.slice ap c.length (c.length + capp)] 22)
    have hN := Lib.hid (Has.new w #[.slice ap c.length (c.length + capp)] 22)
    have HA := Lib.hid hA
    have hs0 : w.heap.size < (w.alloc (.cells #[.slice ap c.length (c.length + capp)] 22)).heap.size := by simp
    obtain ⟨gc, hgc⟩ : ∃ g, goValid c = g := ⟨_, rfl⟩
    rw [hgc] at f2
    have HGC := Lib.hid hgc
    clear hbig hrc hc hA hgc
    go_enter Try.func15, Try.ntmps15
    go_wp2
    go_step3
    go_wp2_with fail
    refine (f1.out _ (Below.refl _ _)).mono ?_
    rintro e w1 ⟨rfl, rfl⟩
    go_wp2_with fail
    refine (f2.out _ HA.out).mono ?_
    rintro e w2 ⟨rfl, hb2⟩
    have G2 := Lib.hid (hN.out.below hb2 hs0)
    have B2 := Lib.hid (HA.out.trans (hb2.mono HA.out.size))
    have hs2 := G2.out.lt
    clear hb2
    go_wp2
    go_step3
    go_wp2
    go_loopw [8, 9, 10, 22] (fun x y r i wr => ∃ k : Nat, k ≤ ls.length ∧ i = .int .i64 (k : Int) ∧ r = .bool gc ∧ x = .int .i64 (natO (hitTo c ls k)) ∧ y = .bool (hitTo c ls k).isSome ∧ (∀ j, j < k → goValid (rk ls j) = true) ∧ Below w2.heap.size w2 wr) (fun _ _ _ i _ => ls.length - (intOf i).toNat)
    case atStart => exact ⟨0, by omega, rfl, rfl, rfl, rfl, fun j h => by omega, Below.refl _ _⟩
    case round =>
      obtain ⟨k, hk, rfl, rfl, rfl, rfl, hall, hB⟩ := hrel
      have BB := B2.out.trans (hB.mono B2.out.size)
      have G := G2.out.below hB hs2
      have hzr := hB.size
      have HALL := Lib.hid hall
      clear hall
      by_cases hlt : k < ls.length
      · obtain ⟨b, o, rfl, hb, hcc⟩ : ∃ b o, ar = some ⟨b, o, none⟩ ∧ b < w.heap.size ∧ ∀ j, j < ls.length → ∃ u, w.cell? ⟨b, o + j, none⟩ = some u ∧ PtsAt w.heap.size w u (rk ls j) := by
          rcases HRC.out with h | h
          · rw [h] at hlt; simp at hlt
          · exact h
        obtain ⟨u, hu, hpu⟩ := hcc k hlt
        have e0 := (BB.cell (p := ⟨b, o + k, none⟩) hb).trans hu
        have hpz := (hpu.below BB).mono BB.size
        have hv := Lib.hid (hullValid_any u (rk ls k) wr hpz)
        have hcw := G.cell (i := 0) rfl
        have hst : Hid (hitTo c ls (k + 1) = if (hitTo c ls k).isSome = true then hitTo c ls k else if touchB c (rk ls k) = true then some k else none) := rfl
        obtain ⟨au, cu, rfl⟩ := hpu.len
        have dk : decide ((k : Int) < (ls.length : Int)) = true := by simp; omega
        have kl : (k : Int) < ls.length := by omega
        have k0 : (0 : Int) ≤ k := by omega
        have HB := Lib.hid hB
        have HBB := Lib.hid BB
        have HG := Lib.hid G
        have HPZ := Lib.hid hpz
        have HPC := Lib.hid ((HP.out.below BB).mono BB.size)
        clear hcc hu hpu hB BB G hpz hcw
        generalize hht : hitTo c ls k = ht at *
        cases hg : goValid (rk ls k)
        · have HR := Lib.hid (fir_bad hle (show okRocks c ls = false by
            unfold okRocks
            rw [Bool.and_eq_false_iff]
            right
            refine decide_eq_false fun h => ?_
            have := h k hlt
            rw [hg] at this; cases this))
          rw [hg] at hv
          clear hg hht
          go_wp2_with fail
          refine hv.out.mono ?_
          rintro e w3 ⟨rfl, hb3⟩
          have B3 := Lib.hid (HBB.out.trans (hb3.mono HBB.out.size))
          clear hb3
          go_wp2
          (try rw [Exit.noGoto_ret]); go_ret3
          exact ⟨by rw [HR.out.1, HR.out.2.1, HR.out.2.2]; rfl, B3.out⟩
        · rw [hg] at hv
          have HALL2 : Hid (∀ j, j < k + 1 → goValid (rk ls j) = true) := fun j hj => by
            by_cases e : j = k
            · rw [e]; exact hg
            · exact HALL.out j (by omega)
          clear hg
          go_wp2_with fail
          refine hv.out.mono ?_
          rintro e w3 ⟨rfl, hb3⟩
          have B3 := Lib.hid (HB.out.trans (hb3.mono (by omega)))
          have G3 := HG.out.below hb3 HG.out.lt
          have c3 := Lib.hid (G3.cell (i := 0) rfl)
          have HP3 := Lib.hid ((HPC.out.below hb3).mono hb3.size)
          have HZ3 := Lib.hid ((HPZ.out.below hb3).mono hb3.size)
          have hz3 := B3.out.size
          clear hb3 G3
          cases ht with
          | some q =>
            have hst2 : Hid (hitTo c ls (k + 1) = some q) := by show _ = _; rw [hst.out]; rfl
            go_wp2
            go_roundw
            case rel => exact ⟨k + 1, by omega, by go_num, rfl, by rw [hst2.out], by rw [hst2.out]; rfl, HALL2.out, B3.out⟩
            case measure => simp [intOf]; omega
          | none =>
            cases gc
            · have hst2 : Hid (hitTo c ls (k + 1) = none) := by
                show _ = _
                rw [hst.out]
                have : touchB c (rk ls k) = false := by unfold touchB; rw [HGC.out]; rfl
                rw [this]; rfl
              go_wp2
              go_roundw
              case rel => exact ⟨k + 1, by omega, by go_num, rfl, by rw [hst2.out], by rw [hst2.out]; rfl, HALL2.out, B3.out⟩
              case measure => simp [intOf]; omega
            · have ht := Lib.hid (touching1_any w.heap.size _ _ c (rk ls k) w3 c3.out HP3.out HZ3.out)
              go_wp2_with fail
              refine ht.out.mono ?_
              rintro e w4 ⟨rfl, hb4⟩
              have B4 := Lib.hid (B3.out.trans (hb4.mono (by omega)))
              clear hb4
              cases htb : touchB c (rk ls k)
              · have hst2 : Hid (hitTo c ls (k + 1) = none) := by show _ = _; rw [hst.out, htb]; rfl
                clear htb
                go_wp2
                go_roundw
                case rel => exact ⟨k + 1, by omega, by go_num, rfl, by rw [hst2.out], by rw [hst2.out]; rfl, HALL2.out, B4.out⟩
                case measure => simp [intOf]; omega
              · have hst2 : Hid (hitTo c ls (k + 1) = some k) := by show _ = _; rw [hst.out, htb]; rfl
                clear htb
                go_wp2
                go_roundw
                case rel => exact ⟨k + 1, by omega, by go_num, rfl, by rw [hst2.out]; rfl, by rw [hst2.out]; rfl, HALL2.out, B4.out⟩
                case measure => simp [intOf]; omega
      · obtain rfl : k = ls.length := by omega
        have dk : decide ((ls.length : Int) < (ls.length : Int)) = false := by simp
        have HBB := Lib.hid BB
        clear hB BB G
        cases gc
        · have HR := Lib.hid (fir_bad hle (show okRocks c ls = false by unfold okRocks; rw [HGC.out]; rfl))
          generalize hitTo c ls ls.length = ht at *
          go_wp2
          (try rw [Exit.noGoto_ret]); go_ret3
          exact ⟨by rw [HR.out.1, HR.out.2.1, HR.out.2.2]; rfl, HBB.out⟩
        · have hok : okRocks c ls = true := by
            unfold okRocks
            rw [HGC.out, Bool.true_and]
            exact decide_eq_true HALL.out
          have HR := Lib.hid (show firI c ls = natO (hitTo c ls ls.length) ∧ firB c ls = (hitTo c ls ls.length).isSome ∧ firE c ls = 0 by unfold firI firB firE; simp [hle, hok])
          clear hok
          go_wp2
          (try rw [Exit.noGoto_ret]); go_ret3
          exact ⟨by rw [HR.out.1, HR.out.2.1, HR.out.2.2]; rfl, HBB.out⟩

theorem common_any (vp vq : Value) (l m : List Pt) (w : World) (hp : PtsAt w.heap.size w vp l) (hq : PtsAt w.heap.size w vq m) :
    Calls Try.prog 38 #[vp, vq] w fun e w' => e = .returned (.tuple #[.agg #[.int .i64 (if (goValid l && goValid m) = true then optX (comX l m) else 0), .int .i64 (if (goValid l && goValid m) = true then optY (comX l m) else 0)], .bool (goValid l && goValid m && (comX l m).isSome), .int .i64 (bothE l m)]) ∧ Below w.heap.size w w' := by
  unfold bothE
  cases h : (goValid l && goValid m)
  · exact common_no vp vq l m w hp hq h
  · simp only [Bool.and_eq_true] at h
    exact common_yes vp vq l m w hp hq h.1 h.2

/-- what Hit returns -/
noncomputable def hitX (l m : List Pt) : Int := if (goValid l && goValid m) = true then optX (comX l m) else 0
noncomputable def hitY (l m : List Pt) : Int := if (goValid l && goValid m) = true then optY (comX l m) else 0
noncomputable def hitB (l m : List Pt) : Bool := goValid l && goValid m && (comX l m).isSome
noncomputable def hitE (l m : List Pt) : Int := if (goValid l && goValid m) = true then (if (comX l m).isSome = true then 0 else if touchB l m = true then 20 else 0) else 1
theorem opt_none {o : Option Pt} (h : o.isSome = false) : optX o = 0 ∧ optY o = 0 := by
  cases o
  · exact ⟨rfl, rfl⟩
  · cases h
set_option linter.unusedSimpArgs false in
set_option maxRecDepth 4000 in
set_option maxHeartbeats 1600000 in
theorem hit_any (vp vq : Value) (l m : List Pt) (w : World) (hp : PtsAt w.heap.size w vp l) (hq : PtsAt w.heap.size w vq m) :
    Calls Try.prog 17 #[vp, vq] w fun e w' => e = .returned (.tuple #[.agg #[.int .i64 (hitX l m), .int .i64 (hitY l m)], .bool (hitB l m), .int .i64 (hitE l m)]) ∧ Below w.heap.size w w' := by
  have f1 := Lib.hid (fun w1 (B : Below w.heap.size w w1) => common_any vp vq l m w1 ((hp.below B).mono B.size) ((hq.below B).mono B.size))
  have f2 := Lib.hid (fun w1 (B : Below w.heap.size w w1) => touching_any vp l w1 ((hp.below B).mono B.size))
  have f3 := Lib.hid (fun Bc w1 (B : Below w.heap.size w w1) hc => touching1_any Bc vp vq l m w1 hc ((hp.below B).mono B.size) ((hq.below B).mono B.size))
  obtain ⟨ap, capp, rfl⟩ := hp.len
  obtain ⟨aq, capq, rfl⟩ := hq.len
  have hA := (Below.refl w.heap.size w).alloc (Nat.le_refl _) (.cells #[.int .i64 0, .int .i64 0] 31)
  have hN := Lib.hid (Has.new w #[.int .i64 0, .int .i64 0] 31)
  have HA := Lib.hid hA
  have hs1 : w.heap.size < (w.alloc (.cells #[.int .i64 0, .int .i64 0] 31)).heap.size := by simp
  obtain ⟨X, hX⟩ : ∃ X, (if (goValid l && goValid m) = true then optX (comX l m) else 0) = X := ⟨_, rfl⟩
  obtain ⟨Y, hY⟩ : ∃ Y, (if (goValid l && goValid m) = true then optY (comX l m) else 0) = Y := ⟨_, rfl⟩
  have hXX : hitX l m = X := hX
  have hYY : hitY l m = Y := hY
  rw [hX, hY] at f1
  rw [hXX, hYY]
  clear hp hq hA hXX hYY
  have fin : ∀ (w1 : World) (b : Bool) (e x y : Int), Has w1 w.heap.size #[.int .i64 0, .int .i64 0] 31 → Below w.heap.size w w1 →
      (w1.cell? ⟨w.heap.size, 0, none⟩ = some (.int .i64 0) ∧ w1.cell? ⟨w.heap.size, 1, none⟩ = some (.int .i64 0) ∧ w1.frozen? ⟨w.heap.size, 0, none⟩ = false ∧ w1.frozen? ⟨w.heap.size, 1, none⟩ = false) ∧
      (((w1.setCell ⟨w.heap.size, 0, none⟩ (.int .i64 x)).setCell ⟨w.heap.size, 1, none⟩ (.int .i64 y)).cell? ⟨w.heap.size, 0, none⟩ = some (.int .i64 x) ∧ ((w1.setCell ⟨w.heap.size, 0, none⟩ (.int .i64 x)).setCell ⟨w.heap.size, 1, none⟩ (.int .i64 y)).cell? ⟨w.heap.size, 1, none⟩ = some (.int .i64 y)) ∧
      Below w.heap.size w ((w1.setCell ⟨w.heap.size, 0, none⟩ (.int .i64 x)).setCell ⟨w.heap.size, 1, none⟩ (.int .i64 y)) := fun w1 b e x y G B => by
    have HZ := (G.set 0 (.int .i64 x)).set 1 (.int .i64 y)
    exact ⟨⟨G.cell (i := 0) rfl, G.cell (i := 1) rfl, cells_free G 0, cells_free G 1⟩, ⟨HZ.cell (i := 0) rfl, HZ.cell (i := 1) rfl⟩, (B.setCell (p := ⟨w.heap.size, 0, none⟩) (by simp) _).setCell (p := ⟨w.heap.size, 1, none⟩) (by simp) _⟩
  have FIN := Lib.hid fin
  clear fin
  cases hv : (goValid l && goValid m)
  · have HR := Lib.hid (show hitB l m = false ∧ hitE l m = 1 ∧ bothE l m = 1 by unfold hitB hitE bothE; rw [hv]; simp)
    rw [HR.out.2.2, hv] at f1
    simp only [Bool.false_and] at f1
    clear hv hX hY
    go_enter Try.func17, Try.ntmps17
    go_wp2_with fail
    refine (f1.out _ HA.out).mono ?_
    rintro e w1 ⟨rfl, hb1⟩
    have G1 := hN.out.below hb1 hs1
    have B1 := HA.out.trans (hb1.mono HA.out.size)
    have hA2 := (Below.refl w1.heap.size w1).alloc (Nat.le_refl _) (.cells #[.int .i64 X, .int .i64 Y] 31)
    obtain ⟨⟨x0, x1, y0, y1⟩, ⟨z0, z1⟩, BZ⟩ := FIN.out _ false 1 X Y (G1.below hA2 G1.lt) (B1.trans (hA2.mono B1.size))
    have BZ' := Lib.hid BZ
    clear hb1 G1 B1 hA2 BZ
    go_wp2
    exact bodyPost_ret (v := .tuple #[.agg #[.int .i64 X, .int .i64 Y], .bool false, .int .i64 1]) (by simp [results, Try.f17, go_sem, z0, z1]) rfl ⟨by rw [HR.out.1, HR.out.2.1], BZ'.out⟩
  · rw [hv] at hX hY
    simp only [if_true] at hX hY
    cases hs : (comX l m).isSome
    · have h0 := opt_none hs
      rw [hX, hY] at h0
      obtain ⟨rfl, rfl⟩ := h0
      have HR := Lib.hid (show hitB l m = false ∧ hitE l m = (if touchB l m = true then 20 else 0) ∧ bothE l m = 0 by unfold hitB hitE bothE; rw [hv, hs]; simp)
      rw [HR.out.2.2, hv, hs] at f1
      simp only [Bool.and_false] at f1
      clear hv hs hX hY
      go_enter Try.func17, Try.ntmps17
      go_wp2_with fail
      refine (f1.out _ HA.out).mono ?_
      rintro e w1 ⟨rfl, hb1⟩
      have hA2 := (Below.refl w1.heap.size w1).alloc (Nat.le_refl _) (.cells #[.int .i64 0, .int .i64 0] 31)
      have G1 := hN.out.below hb1 hs1
      have G2 := Lib.hid (G1.below hA2 G1.lt)
      have B1 := HA.out.trans (hb1.mono HA.out.size)
      have B2 := Lib.hid (B1.trans (hA2.mono B1.size))
      have HA2 := Lib.hid hA2
      clear hb1 G1 B1 hA2
      obtain ⟨W2, hW2⟩ : ∃ W2, w1.alloc (.cells #[.int .i64 0, .int .i64 0] 31) = W2 := ⟨_, rfl⟩
      rw [hW2] at G2 B2 HA2
      have HW2 := Lib.hid hW2
      clear hW2
      have hs2 := G2.out.lt
      go_upto_region 4 with fail
      rw [HW2.out]
      go_wp2_with fail
      refine (f2.out _ B2.out).mono ?_
      rintro e w3 ⟨rfl, rfl⟩
      have hA3 := (Below.refl W2.heap.size W2).alloc (Nat.le_refl _) (.cells #[.slice ap l.length (l.length + capp)] 22)
      have hc3 := (Has.new W2 #[.slice ap l.length (l.length + capp)] 22).cell (i := 0) rfl
      have B3 := Lib.hid (B2.out.trans (hA3.mono B2.out.size))
      have G3 := Lib.hid (G2.out.below hA3 hs2)
      have hs3 := G3.out.lt
      have ht := Lib.hid (f3.out W2.heap.size _ B3.out hc3)
      clear hA3 hc3
      go_wp2_with fail
      refine ht.out.mono ?_
      rintro e w4 ⟨rfl, hb4⟩
      have G4 := G3.out.below hb4 hs3
      have B4 := B3.out.trans (hb4.mono B3.out.size)
      obtain ⟨⟨x0, x1, y0, y1⟩, ⟨z0, z1⟩, BZ⟩ := FIN.out _ false 1 0 0 G4 B4
      have BZ' := Lib.hid BZ
      clear hb4 G4 B4 BZ
      cases htb : touchB l m
      · have HT := Lib.hid htb
        clear htb
        go_wp2
        exact bodyPost_ret (v := .tuple #[.agg #[.int .i64 0, .int .i64 0], .bool false, .int .i64 0]) (by simp [results, Try.f17, go_sem, z0, z1]) rfl ⟨by rw [HR.out.1, HR.out.2.1, HT.out]; rfl, BZ'.out⟩
      · have HT := Lib.hid htb
        clear htb
        go_wp2
        exact bodyPost_ret (v := .tuple #[.agg #[.int .i64 0, .int .i64 0], .bool false, .int .i64 20]) (by simp [results, Try.f17, go_sem, z0, z1]) rfl ⟨by rw [HR.out.1, HR.out.2.1, HT.out]; rfl, BZ'.out⟩
    · have HR := Lib.hid (show hitB l m = true ∧ hitE l m = 0 ∧ bothE l m = 0 by unfold hitB hitE bothE; rw [hv, hs]; simp)
      rw [HR.out.2.2, hv, hs] at f1
      simp only [Bool.and_true] at f1
      clear hv hs hX hY
      go_enter Try.func17, Try.ntmps17
      go_wp2_with fail
      refine (f1.out _ HA.out).mono ?_
      rintro e w1 ⟨rfl, hb1⟩
      have G1 := hN.out.below hb1 hs1
      have B1 := HA.out.trans (hb1.mono HA.out.size)
      have hA2 := (Below.refl w1.heap.size w1).alloc (Nat.le_refl _) (.cells #[.int .i64 X, .int .i64 Y] 31)
      obtain ⟨⟨x0, x1, y0, y1⟩, ⟨z0, z1⟩, BZ⟩ := FIN.out _ false 1 X Y (G1.below hA2 G1.lt) (B1.trans (hA2.mono B1.size))
      have BZ' := Lib.hid BZ
      clear hb1 G1 B1 hA2 BZ
      go_wp2
      exact bodyPost_ret (v := .tuple #[.agg #[.int .i64 X, .int .i64 Y], .bool true, .int .i64 0]) (by simp [results, Try.f17, go_sem, z0, z1]) rfl ⟨by rw [HR.out.1, HR.out.2.1], BZ'.out⟩
end Go.Proofs.Ytjjkmonfihomnaa
