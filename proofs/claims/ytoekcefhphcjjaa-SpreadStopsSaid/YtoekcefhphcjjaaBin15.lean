/- slices.Concat of lists of points; package cut: shared, Apart. | A list of points appended to one of the call's own; points in a literal. | package cut: shared, Apart; package rocks: touching. -/
import Derived.Lib.AppendZeros
import Derived.Lib.SliceRun
import Derived.Laws.AppendOwnNone
import Derived.Test.YtoekcefhphcjjaaBin14
import Derived.Test.YtoekcefhphcjjaaBin01
import Derived.Test.YtoekcefhphcjjaaBin09
import Derived.Test.YtoekcefhphcjjaaBin12
namespace Go.Proofs.Ytoekcefhphcjjaa
open Go.RowKit
attribute [local irreducible] wpQuiet

set_option linter.unusedSimpArgs false in
set_option maxRecDepth 8000 in
set_option maxHeartbeats 800000 in
theorem grow_nil (n : Nat) (hn : n ≤ 1000000) (w : World) : Calls Try.prog 71 #[.slice none 0 0, .int .i64 (n : Int)] w fun e w' => ∃ v, e = .returned v ∧ w'.ownsRow w.heap.size 38 2 v 0 [] ∧ Below w.heap.size w w' := by
  have h1 : decide ((n : Int) < 0) = false := by simp
  have h2 : IntKind.i64.wrap ((n : Int) - 0) = (n : Int) := by rw [Int.sub_zero]; exact IntWalk.i64_in _ (by omega)
  by_cases h0 : n = 0
  · subst h0
    go_enter Try.func71, Try.ntmps71
    go_wp2
    go_ret
    exact ⟨_, rfl, World.ownsRow_nil _ _ _ _, Below.refl _ _⟩
  · obtain ⟨i0, hi, hz0', hz1', hz2'⟩ := info_parts ptInfo
    have h3 : decide ((n : Int) > 0) = true := by simp; omega
    have hrz := fun ty => Lib.run_append_nil_zeros (P := Try.prog) w 23 3 ty 38 i0 (.agg #[.int .i64 0, .int .i64 0]) .i64 .i64 Try.underlying23 Try.underlying3 hi hz0' n (by omega) (by rw [hz1']; omega) (by omega) (by rw [hz2']; omega)
    have hG := grownCap_le_maxLen w n 0 38 (by unfold maxLen; omega)
    have hG2 := grownCap_ge w n 0 38
    obtain ⟨G, hGe⟩ : ∃ G, G = grownCap w n 0 38 := ⟨_, rfl⟩
    rw [← hGe] at hrz hG hG2
    have hz : Builtin.zeroCells (Value.cells (.agg #[.int .i64 0, .int .i64 0])) n ++ Builtin.zeroCells (Value.cells (.agg #[.int .i64 0, .int .i64 0])) (G - n) = Builtin.zeroCells (Value.cells (.agg #[.int .i64 0, .int .i64 0])) n ++ Builtin.zeroCells (Value.cells (.agg #[.int .i64 0, .int .i64 0])) (G - n) := rfl
    have hsz : (Builtin.zeroCells (Value.cells (.agg #[.int .i64 0, .int .i64 0])) n ++ Builtin.zeroCells (Value.cells (.agg #[.int .i64 0, .int .i64 0])) (G - n)).size = G * 2 := by
      simp [Builtin.zeroCells, Value.cells]; omega
    have hown := World.ownsRow_made (e := 38) (size := 2) (base := w.heap.size) w.drew (Builtin.zeroCells (Value.cells (.agg #[.int .i64 0, .int .i64 0])) n ++ Builtin.zeroCells (Value.cells (.agg #[.int .i64 0, .int .i64 0])) (G - n)) G (Nat.le_refl _) hG hsz
    have hB := ((Below.refl w.heap.size w).drew).alloc (Nat.le_refl _) (.cells (Builtin.zeroCells (Value.cells (.agg #[.int .i64 0, .int .i64 0])) n ++ Builtin.zeroCells (Value.cells (.agg #[.int .i64 0, .int .i64 0])) (G - n)) 38)
    generalize Builtin.zeroCells (Value.cells (.agg #[.int .i64 0, .int .i64 0])) n ++ Builtin.zeroCells (Value.cells (.agg #[.int .i64 0, .int .i64 0])) (G - n) = zz at *
    have HO := Lib.hid (And.intro hown hB)
    clear hown hB hz hsz hGe
    unfold maxLen at hG
    go_enter Try.func71, Try.ntmps71
    go_wp2_with (at_builtin; refine Lib.wpList_append_run _ rfl _ _ _ _ rfl _ _ rfl rfl _ _ (hrz _) ?_)
    all_goals (go_ret; exact ⟨_, rfl, HO.out.1, HO.out.2⟩)

/-- 'append(buf, xs...)' where buf is the call's own and xs has no array -/
theorem run_append_no {P : Program} {w : World} (base : Nat) (t ty e : TypeId) (i : TypeInfo) (size : Nat) (ht : P.underlying t = some (.slice e)) (hi : P.info? e = some i)
    (v : Value) (n : Nat) (xs : List Value) (hown : w.ownsRow base e size v n xs) (c : Nat) : (Builtin.append_ #[t, t] ty #[v, .slice none 0 c]).run P w = .ok v w := by
  rcases hown.2 with ⟨rfl, rfl⟩ | ⟨g, cap, cur, rfl, _, _, hnc, _⟩
  · simp [Builtin.append_, run_underlying ht, sizeOf, typeInfo, hi, Builtin.lenOf, Builtin.firstCells]
  · simp [Builtin.append_, run_underlying ht, sizeOf, typeInfo, hi, Builtin.lenOf, Builtin.firstCells, hnc, storeCells]
theorem wpList_append_no {P : Program} {w : World} {ops : Array Oper} {rest : List Oper} {o : Oper} {a : Act} {Q : Exit → Act → World → Prop} (hgd : o.guard = none) (s x : Operand) (t : TypeId)
    (ho : o.op = .call { callee := .builtin .append, args := #[s, x], argTypes := #[t, t] })
    (base : Nat) (e : TypeId) (i : TypeInfo) (size : Nat) (ht : P.underlying t = some (.slice e)) (hi : P.info? e = some i)
    (v : Value) (n : Nat) (xs : List Value) (hs : a.eval s = v) (hown : w.ownsRow base e size v n xs) (c : Nat) (hx : a.eval x = .slice none 0 c)
    (h : wpList P ops Q rest (a.put o.dst v) w) : wpList P ops Q (o :: rest) a w := by
  refine wpList_plain hgd fun K hK => ?_
  have hrun := run_append_no (P := P) (w := w) base t o.type e i size ht hi v n xs hown c
  unfold Oper.wp
  simp [execOp, ho, resolve, invoke, builtin, hs, hx, hrun, Result.andThen]
  exact hK _ _ h

/-- how many points the first k lists have -/
def sumTo (ls : List (List Pt)) : Nat → Nat
  | 0 => 0
  | k + 1 => sumTo ls k + (rk ls k).length
def catTo (ls : List (List Pt)) : Nat → List Pt
  | 0 => []
  | k + 1 => catTo ls k ++ rk ls k
theorem catTo_len (ls : List (List Pt)) : ∀ k, (catTo ls k).length = sumTo ls k
  | 0 => rfl
  | k + 1 => by simp [catTo, sumTo, catTo_len ls k]
theorem sumTo_le (ls : List (List Pt)) {N : Nat} (h : ∀ j, (rk ls j).length ≤ N) : ∀ k, sumTo ls k ≤ k * N
  | 0 => by simp [sumTo]
  | k + 1 => by
    have := sumTo_le ls h k
    have := h k
    simp only [sumTo, Nat.add_mul]
    omega
set_option linter.unusedSimpArgs false in
set_option maxRecDepth 4000 in
set_option maxHeartbeats 1600000 in
theorem concat_any (v : Value) (ls : List (List Pt)) (w : World) (hr : RocksAt w.heap.size w v ls) (hl : ls.length ≤ 10) (hn : ∀ j, (rk ls j).length ≤ 20000) :
    Calls Try.prog 60 #[v] w (PtsQ (catTo ls ls.length) w) := by
  obtain ⟨_, a, cap, rfl, hc⟩ := hr
  have HC := Lib.hid hc
  have HN := Lib.hid hn
  obtain ⟨i0, hi, hz0', hz1', hz2'⟩ := info_parts ptInfo
  have hs := fun k => sumTo_le ls hn k
  have HS := Lib.hid hs
  clear hc hn hs
  go_enter Try.func60, Try.ntmps60
  go_wp2
  go_loopw [3, 11] (fun s i wr => ∃ k : Nat, k ≤ ls.length ∧ i = .int .i64 (k : Int) ∧ s = .int .i64 (sumTo ls k : Int) ∧ Below w.heap.size w wr) (fun _ i _ => ls.length - (intOf i).toNat)
  case atStart => exact ⟨0, by omega, rfl, rfl, Below.refl _ _⟩
  case round =>
    obtain ⟨k, hk, rfl, rfl, hB⟩ := hrel
    have hzB := hB.size
    have hsk := HS.out k
    by_cases hlt : k < ls.length
    · obtain ⟨b, o, rfl, hb, hcc⟩ : ∃ b o, a = some ⟨b, o, none⟩ ∧ b < w.heap.size ∧ ∀ j, j < ls.length → ∃ u, w.cell? ⟨b, o + j, none⟩ = some u ∧ PtsAt w.heap.size w u (rk ls j) := by
        rcases HC.out with h | h
        · rw [h] at hlt; simp at hlt
        · exact h
      obtain ⟨u, hu, hpu⟩ := hcc k hlt
      obtain ⟨au, cu, rfl⟩ := hpu.len
      have e0 := (hB.cell (p := ⟨b, o + k, none⟩) hb).trans hu
      have hnk := HN.out k
      have hst : Hid ((sumTo ls (k + 1) : Int) = (sumTo ls k : Int) + ((rk ls k).length : Int)) := by show _ = _; simp [sumTo]
      have dk : decide ((k : Int) < (ls.length : Int)) = true := by simp; omega
      have kl : (k : Int) < ls.length := by omega
      have k0 : (0 : Int) ≤ k := by omega
      have m1 : IntKind.i64.wrap ((sumTo ls k : Int) + ((rk ls k).length : Int)) = (sumTo ls k : Int) + ((rk ls k).length : Int) := IntWalk.i64_in _ (by omega)
      have d1 : decide ((sumTo ls k : Int) + ((rk ls k).length : Int) < 0) = false := by simp; omega
      have hBB := Lib.hid hB
      clear hcc hu hpu hB
      generalize (sumTo ls k : Int) = S at *
      go_wp2
      go_roundw
      case rel => exact ⟨k + 1, by omega, by go_num, by rw [hst.out], hBB.out⟩
      case measure => simp [intOf]; omega
    · obtain rfl : k = ls.length := by omega
      have dk : decide ((ls.length : Int) < (ls.length : Int)) = false := by simp
      have hg := Lib.hid (grow_nil (sumTo ls ls.length) (by omega) wr)
      have hBB := Lib.hid hB
      clear hB
      obtain ⟨wq, rfl⟩ : ∃ x, x = wr := ⟨_, rfl⟩
      go_wp2_with fail
      refine hg.out.mono ?_
      rintro e w2 ⟨vg, rfl, hown, hb2⟩
      have HO := Lib.hid hown
      have H2 := Lib.hid hb2
      clear hown hb2
      go_wp2
      go_loopw [6, 27] (fun v i wr => ∃ k : Nat, k ≤ ls.length ∧ i = .int .i64 (k : Int) ∧ wr.ownsRow wq.heap.size 38 2 v (catTo ls k).length (ptCells (catTo ls k)) ∧ Below wq.heap.size wq wr) (fun _ i _ => ls.length - (intOf i).toNat)
      case atStart => exact ⟨0, by omega, rfl, HO.out, H2.out⟩
      case round =>
        obtain ⟨k, hk2, rfl, hrow, hZ⟩ := hrel
        have hzz := hZ.size
        have BZ := hBB.out.trans (hZ.mono hBB.out.size)
        by_cases hlt2 : k < ls.length
        · obtain ⟨b, o, rfl, hb, hcc⟩ : ∃ b o, a = some ⟨b, o, none⟩ ∧ b < w.heap.size ∧ ∀ j, j < ls.length → ∃ u, w.cell? ⟨b, o + j, none⟩ = some u ∧ PtsAt w.heap.size w u (rk ls j) := by
            rcases HC.out with h | h
            · rw [h] at hlt2; simp at hlt2
            · exact h
          obtain ⟨u, hu, hpu⟩ := hcc k hlt2
          have hpz := hpu.below BZ
          have e0 := (BZ.cell (p := ⟨b, o + k, none⟩) hb).trans hu
          have hnk := HN.out k
          have hcl := catTo_len ls k
          have hsk2 := HS.out k
          have dk2 : decide ((k : Int) < (ls.length : Int)) = true := by simp; omega
          have kl : (k : Int) < ls.length := by omega
          have k0 : (0 : Int) ≤ k := by omega
          have HZ := Lib.hid hZ
          have HR := Lib.hid hrow
          obtain ⟨_, au, cu, rfl, hcu⟩ := hpz
          have hsz1 : wq.heap.size ≤ wr.heap.size := hzz
          have HCU := Lib.hid hcu
          clear hcc hu hpu hZ hrow hcu BZ
          rcases au with _ | ⟨bu, ou, su⟩
          · have h0 : rk ls k = [] := by
              rcases HCU.out with h | ⟨_, _, h, _⟩
              · exact h
              · cases h
            have hcat : Hid (catTo ls (k + 1) = catTo ls k) := by show catTo ls k ++ rk ls k = _; rw [h0, List.append_nil]
            rw [h0] at e0 hnk
            have e0' : wr.cell? ⟨b, o + k, none⟩ = some (.slice none 0 cu) := by simpa using e0
            have HR' := HR.out
            clear e0 HCU h0
            go_wp2_with (at_builtin; refine wpList_append_no rfl _ _ 23 rfl wq.heap.size 38 i0 2 Try.underlying23 hi _ _ _ rfl HR.out cu rfl ?_)
            go_roundw
            case rel => exact ⟨k + 1, by omega, by go_num, by rw [hcat.out]; exact HR.out, HZ.out⟩
            case measure => simp [intOf]; omega
          · obtain ⟨hsu, hcu⟩ : (rk ls k = [] ∨ su = none) ∧ (∀ j u, (ptCells (rk ls k))[j]? = some u → wr.cell? ((⟨bu, ou, su⟩ : Addr).add j) = some u) := by
              rcases HCU.out with h | ⟨b', o', h, _, h2⟩
              · rw [h]; exact ⟨.inl rfl, fun j u hu => by simp [ptCells] at hu⟩
              · cases h
                exact ⟨.inr rfl, pt_add h2⟩
            go_wp2_with (at_builtin; refine wpList_append_own _ rfl _ _ 23 rfl wq.heap.size 38 i0 (.agg #[.int .i64 0, .int .i64 0]) 2 16 Try.underlying23 hi hz0' hz1' hz2' rfl (by decide) _ _ _ rfl HR.out ⟨bu, ou, su⟩ (rk ls k).length ((rk ls k).length + cu) (ptCells (rk ls k)) rfl (ptCells_len _) hcu (ptCells_one _) (by unfold maxLen; omega) (by omega) (by omega) ?_; intro v' w4 hown' hgrow _)
            go_roundw
            case rel =>
              have hb0 : Below wq.heap.size wr w4 := (Below.refl wq.heap.size wr).grown hgrow (by omega) (fun j ej => (HR.out.lt j ej).1)
              refine ⟨k + 1, by omega, by go_num, ?_, HZ.out.trans hb0⟩
              simp only [catTo, List.length_append, ptCells_append]
              exact hown'
            case measure => simp [intOf]; omega
        · obtain rfl : k = ls.length := by omega
          have dk2 : decide ((ls.length : Int) < (ls.length : Int)) = false := by simp
          have hcl := catTo_len ls ls.length
          have HI := Lib.hid (PtsAt.own hrow (by omega))
          have HZ := Lib.hid BZ
          clear hrow hZ BZ
          go_wp2
          go_ret
          exact ⟨_, rfl, HI.out, HZ.out⟩
end Go.Proofs.Ytoekcefhphcjjaa

namespace Go.Proofs.Ytoekcefhphcjjaa
open Go.RowKit

theorem wpList_append_pts {w : World} {ops : Array Oper} {rest : List Oper} {o : Oper} {a : Act} {Q : Exit → Act → World → Prop} (hgd : o.guard = none) (s x : Operand)
    (ho : o.op = .call { callee := .builtin .append, args := #[s, x], argTypes := #[23, 23] })
    (base : Nat) (v : Value) (n : Nat) (xs : List Value) (hs : a.eval s = v) (hown : w.ownsRow base 38 2 v n xs)
    (vx : Value) (l : List Pt) (hx : a.eval x = vx) (hp : PtsAt w.heap.size w vx l) (h63 : n + l.length ≤ 1000000) (hbase : base ≤ w.heap.size)
    (h : ∀ v' w', w'.ownsRow base 38 2 v' (n + l.length) (xs ++ ptCells l) → w.grownBy w' v.ownBlock → (v'.ownBlock = v.ownBlock ∨ v'.ownBlock = some w.heap.size) → wpList Try.prog ops Q rest (a.put o.dst v') w') :
    wpList Try.prog ops Q (o :: rest) a w := by
  obtain ⟨i0, hi, hz0', hz1', hz2'⟩ := info_parts ptInfo
  obtain ⟨_, au, cu, rfl, hcu⟩ := hp
  rcases au with _ | ⟨bu, ou, su⟩
  · have h0 : l = [] := by
      rcases hcu with h | ⟨_, _, h, _⟩
      · exact h
      · cases h
    subst h0
    refine wpList_append_no hgd s x 23 ho base 38 i0 2 Try.underlying23 hi v n xs hs hown cu (by simpa using hx) ?_
    exact h v w (by simpa [ptCells] using hown) ⟨rfl, rfl, rfl, Nat.le_refl _, fun _ _ _ => rfl⟩ (.inl rfl)
  · obtain ⟨hsu, hcu⟩ : (l = [] ∨ su = none) ∧ (∀ j u, (ptCells l)[j]? = some u → w.cell? ((⟨bu, ou, su⟩ : Addr).add j) = some u) := by
      rcases hcu with h | ⟨b', o', h, _, h2⟩
      · rw [h]; exact ⟨.inl rfl, fun j u hu => by simp [ptCells] at hu⟩
      · cases h
        exact ⟨.inr rfl, pt_add h2⟩
    exact wpList_append_own_at w hgd s x 23 ho base 38 i0 (.agg #[.int .i64 0, .int .i64 0]) 2 16 Try.underlying23 hi hz0' hz1' hz2' rfl (by decide) v n xs hs hown ⟨bu, ou, su⟩ l.length (l.length + cu) (ptCells l) hx (ptCells_len _) hcu (ptCells_one _) (by unfold maxLen; omega) (by omega) hbase
      fun v' w' h1 h2 _ h4 => h v' w' h1 h2 h4
/-- behind an append to a row of the call's own -/
theorem app_below {w w' : World} {base n : Nat} {t : TypeId} {size : Nat} {v : Value} {xs : List Value} (hown : w.ownsRow base t size v n xs) (hg : w.grownBy w' v.ownBlock) {b0 : Nat} (h0 : b0 ≤ base) (hb : b0 ≤ w.heap.size) : Below b0 w w' :=
  (Below.refl b0 w).grown hg hb fun j ej => Nat.le_trans h0 (hown.lt j ej).1
/-- points in a literal -/
theorem pts_lit {W : World} {B : Nat} {l : List Pt} (h : Has W B (ptCells l).toArray 38) (hl : l.length ≤ 1000) : PtsAt W.heap.size W (.slice (some ⟨B, 0, none⟩) l.length l.length) l := by
  refine ⟨by omega, some ⟨B, 0, none⟩, 0, rfl, .inr ⟨B, 0, rfl, h.lt, fun j hj => ?_⟩⟩
  obtain ⟨f0, f1⟩ := ptCells_get l j hj
  rw [Nat.zero_add]
  exact ⟨h.cell (i := j * 2) (by simpa using f0), h.cell (i := j * 2 + 1) (by simpa using f1)⟩
end Go.Proofs.Ytoekcefhphcjjaa

namespace Go.Proofs.Ytoekcefhphcjjaa
open Go.RowKit
attribute [local irreducible] wpQuiet

noncomputable def sharedP (l m : List Pt) : List Pt := cornersP l m ++ cornersP m l ++ crossP l m


/-- two polygons are not apart -/
noncomputable def touchB (l m : List Pt) : Bool := goValid l && goValid m && !decide ((sharedP l m).length = 0)
end Go.Proofs.Ytoekcefhphcjjaa
