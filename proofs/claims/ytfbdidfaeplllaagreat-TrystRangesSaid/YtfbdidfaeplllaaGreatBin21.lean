/- slices.Concat of lists of points; package cut: shared, Apart. | A list of points appended to one of the call's own; points in a literal. | package cut: shared, Apart; package rocks: touching. -/
import Derived.Lib.AppendZeros
import Derived.Lib.SliceRun
import Derived.Laws.AppendOwnNone
import Derived.Test.YtfbdidfaeplllaaGreatBin20
import Derived.Test.YtfbdidfaeplllaaGreatBin01
import Derived.Test.YtfbdidfaeplllaaGreatBin08
import Derived.Test.YtfbdidfaeplllaaGreatBin19
namespace Go.Proofs.YtfbdidfaeplllaaGreat
open Go.RowKit
attribute [local irreducible] wpQuiet


/-- 'append(buf, xs...)' where buf is the call's own and xs has no array -/
theorem run_append_no {P : Program} {w : World} (base : Nat) (t ty e : TypeId) (i : TypeInfo) (size : Nat) (ht : P.underlying t = some (.slice e)) (hi : P.info? e = some i)
    (v : Value) (n : Nat) (xs : List Value) (hown : w.ownsRow base e size v n xs) (c : Nat) : (Builtin.append_ #[t, t] ty #[v, .slice none 0 c]).run P w = .ok v w := by
  rcases hown.2 with ⟨rfl, rfl⟩ | ⟨g, cap, cur, rfl, _, _, hnc, _⟩
  · simp [Builtin.append_, run_underlying ht, sizeOf, typeInfo, hi, Builtin.lenOf, Builtin.firstCells]
  · simp [Builtin.append_, run_underlying ht, sizeOf, typeInfo, hi, Builtin.lenOf, Builtin.firstCells, hnc, storeCells]
theorem wpList_append_no {P : Program} {w : World} {ops : Array Oper} {rest : List Oper} {o : Oper} {a : Act} {Q : Exit → Act → World → Prop} (hgd : o.guard = none) (s x : Operand) (t : TypeId)
    (ho : o.op = .call { callee := .builtin .append, args := #[s, x], argTypes := #[t, t] })
    (base : Nat) (e : TypeId) (i : TypeInfo) (size : Nat) (ht : P.underlying t = some (.slice e)) (hi : P.info? e = some i)
    (v : Value) (n : Nat) (xs : List Value) (hs : a.eval s = v) (hown : w.ownsRow base e size v n xs) (c : Nat) (hx : a.eval x = .slice none 0 c)
    (h : wpList P ops Q rest (a.put o.dst v) w) : wpList P ops Q (o :: rest) a w := by
  refine wpList_plain hgd fun K hK => ?_
  have hrun := run_append_no (P := P) (w := w) base t o.type e i size ht hi v n xs hown c
  unfold Oper.wp
  simp [execOp, ho, resolve, invoke, builtin, hs, hx, hrun, Result.andThen]
  exact hK _ _ h

end Go.Proofs.YtfbdidfaeplllaaGreat

namespace Go.Proofs.YtfbdidfaeplllaaGreat
open Go.RowKit

theorem wpList_append_pts {w : World} {ops : Array Oper} {rest : List Oper} {o : Oper} {a : Act} {Q : Exit → Act → World → Prop} (hgd : o.guard = none) (s x : Operand)
    (ho : o.op = .call { callee := .builtin .append, args := #[s, x], argTypes := #[23, 23] })
    (base : Nat) (v : Value) (n : Nat) (xs : List Value) (hs : a.eval s = v) (hown : w.ownsRow base 31 2 v n xs)
    (vx : Value) (l : List Pt) (hx : a.eval x = vx) (hp : PtsAt w.heap.size w vx l) (h63 : n + l.length ≤ 1000000) (hbase : base ≤ w.heap.size)
    (h : ∀ v' w', w'.ownsRow base 31 2 v' (n + l.length) (xs ++ ptCells l) → w.grownBy w' v.ownBlock → (v'.ownBlock = v.ownBlock ∨ v'.ownBlock = some w.heap.size) → wpList Tryz.prog ops Q rest (a.put o.dst v') w') :
    wpList Tryz.prog ops Q (o :: rest) a w := by
  obtain ⟨i0, hi, hz0', hz1', hz2'⟩ := info_parts ptInfo
  obtain ⟨_, au, cu, rfl, hcu⟩ := hp
  rcases au with _ | ⟨bu, ou, su⟩
  · have h0 : l = [] := by
      rcases hcu with h | ⟨_, _, h, _⟩
      · exact h
      · cases h
    subst h0
    refine wpList_append_no hgd s x 23 ho base 31 i0 2 Tryz.underlying23 hi v n xs hs hown cu (by simpa using hx) ?_
    exact h v w (by simpa [ptCells] using hown) ⟨rfl, rfl, rfl, Nat.le_refl _, fun _ _ _ => rfl⟩ (.inl rfl)
  · obtain ⟨hsu, hcu⟩ : (l = [] ∨ su = none) ∧ (∀ j u, (ptCells l)[j]? = some u → w.cell? ((⟨bu, ou, su⟩ : Addr).add j) = some u) := by
      rcases hcu with h | ⟨b', o', h, _, h2⟩
      · rw [h]; exact ⟨.inl rfl, fun j u hu => by simp [ptCells] at hu⟩
      · cases h
        exact ⟨.inr rfl, pt_add h2⟩
    exact wpList_append_own_at w hgd s x 23 ho base 31 i0 (.agg #[.int .i64 0, .int .i64 0]) 2 16 Tryz.underlying23 hi hz0' hz1' hz2' rfl (by decide) v n xs hs hown ⟨bu, ou, su⟩ l.length (l.length + cu) (ptCells l) hx (ptCells_len _) hcu (ptCells_one _) (by unfold maxLen; omega) (by omega) hbase
      fun v' w' h1 h2 _ h4 => h v' w' h1 h2 h4
/-- behind an append to a row of the call's own -/
theorem app_below {w w' : World} {base n : Nat} {t : TypeId} {size : Nat} {v : Value} {xs : List Value} (hown : w.ownsRow base t size v n xs) (hg : w.grownBy w' v.ownBlock) {b0 : Nat} (h0 : b0 ≤ base) (hb : b0 ≤ w.heap.size) : Below b0 w w' :=
  (Below.refl b0 w).grown hg hb fun j ej => Nat.le_trans h0 (hown.lt j ej).1
/-- points in a literal -/
theorem pts_lit {W : World} {B : Nat} {l : List Pt} (h : Has W B (ptCells l).toArray 31) (hl : l.length ≤ 1000) : PtsAt W.heap.size W (.slice (some ⟨B, 0, none⟩) l.length l.length) l := by
  refine ⟨by omega, some ⟨B, 0, none⟩, 0, rfl, .inr ⟨B, 0, rfl, h.lt, fun j hj => ?_⟩⟩
  obtain ⟨f0, f1⟩ := ptCells_get l j hj
  rw [Nat.zero_add]
  exact ⟨h.cell (i := j * 2) (by simpa using f0), h.cell (i := j * 2 + 1) (by simpa using f1)⟩
end Go.Proofs.YtfbdidfaeplllaaGreat

namespace Go.Proofs.YtfbdidfaeplllaaGreat
open Go.RowKit
attribute [local irreducible] wpQuiet

noncomputable def sharedP (l m : List Pt) : List Pt := cornersP l m ++ cornersP m l ++ crossP l m


/-- two polygons are not apart -/
noncomputable def touchB (l m : List Pt) : Bool := goValid l && goValid m && !decide ((sharedP l m).length = 0)
end Go.Proofs.YtfbdidfaeplllaaGreat
