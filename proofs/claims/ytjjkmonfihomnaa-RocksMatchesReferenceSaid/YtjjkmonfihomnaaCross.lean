/- package cut: crossings. -/
import Derived.Test.YtjjkmonfihomnaaCutSides
import Derived.Test.YtjjkmonfihomnaaFrame
namespace Go.Proofs.Ytjjkmonfihomnaa
open Go.RowKit
attribute [local irreducible] wpQuiet
attribute [local go_sem] Oper.semAt_some

/-- the frame of the point at which two sides cross, if they do -/
def crossST (S T : Pt × Pt) : List Pt :=
  if (crossB (turnP S.1 S.2 T.1) (turnP S.1 S.2 T.2) && crossB (turnP T.1 T.2 S.1) (turnP T.1 T.2 S.2)) = true then frameP T.1 T.2 (turnP S.1 S.2 T.1) (turnP S.1 S.2 T.2) else []
def sidesL (l : List Pt) : List (Pt × Pt) := upto (sideP l) l.length
def rowS (S : Pt × Pt) (ts : List (Pt × Pt)) : List Pt := ts.flatMap (crossST S)
def crossL (ss ts : List (Pt × Pt)) : List Pt := ss.flatMap (fun S => rowS S ts)
def crossP (l m : List Pt) : List Pt := crossL (sidesL l) (sidesL m)
theorem crossST_len (S T : Pt × Pt) : (crossST S T).length ≤ 4 := by unfold crossST; split <;> simp [frameP]
theorem rowS_len (S : Pt × Pt) : ∀ ts, (rowS S ts).length ≤ 4 * ts.length
  | [] => by simp [rowS]
  | T :: ts => by
    have h := rowS_len S ts
    have e := crossST_len S T
    simp only [rowS, List.flatMap_cons, List.length_append, List.length_cons] at *
    omega
theorem crossL_len (ts : List (Pt × Pt)) : ∀ ss, (crossL ss ts).length ≤ 4 * ts.length * ss.length
  | [] => by simp [crossL]
  | S :: ss => by
    have h := crossL_len ts ss
    have e := rowS_len S ts
    simp only [crossL, List.flatMap_cons, List.length_append, List.length_cons] at *
    rw [Nat.mul_add, Nat.mul_one]
    omega
theorem rowS_append (S : Pt × Pt) (ts us : List (Pt × Pt)) : rowS S (ts ++ us) = rowS S ts ++ rowS S us := by simp [rowS]
theorem crossL_append (ts ss rs : List (Pt × Pt)) : crossL (ss ++ rs) ts = crossL ss ts ++ crossL rs ts := by simp [crossL]

theorem ownFrom_keepsP {β : Type} {p : Nat → Prop} {Bb : Nat} (A : World) (hp : ∀ b, p b → b < A.heap.size ∧ b < Bb) : OwnFrom Bb (fun (_ : β) W => KeepsP p A W) :=
  fun _ X Y row hs hg hr => ⟨Nat.le_trans hs.1 hg.size, fun b hb => (hg.block b (Nat.lt_of_lt_of_le (hp b hb).1 hs.1) (fun e => by have := (hr b e.symm).1; have := (hp b hb).2; omega)).trans (hs.2 b hb)⟩
theorem has_own {β : Type} (Bb : Nat) (cs : Array Value) (t : TypeId) : Own (fun (_ : β) W => Has W Bb cs t) := fun _ _ _ _ hs hg hrow => has_kept hs hg hrow
theorem turnV_bd {a b c : Pt} (pa : -500000 ≤ a.x ∧ a.x ≤ 500000 ∧ -500000 ≤ a.y ∧ a.y ≤ 500000) (pb : -500000 ≤ b.x ∧ b.x ≤ 500000 ∧ -500000 ≤ b.y ∧ b.y ≤ 500000) (pc : -500000 ≤ c.x ∧ c.x ≤ 500000 ∧ -500000 ≤ c.y ∧ c.y ≤ 500000) :
    -2000000000000 ≤ turnV a.x a.y b.x b.y c.x c.y ∧ turnV a.x a.y b.x b.y c.x c.y ≤ 2000000000000 := by
  have p := prod_bd (a := b.x - a.x) (b := c.y - a.y) (m := 1000000) (n := 1000000) (by omega) (by omega) (by omega) (by omega)
  have q := prod_bd (a := b.y - a.y) (b := c.x - a.x) (m := 1000000) (n := 1000000) (by omega) (by omega) (by omega) (by omega)
  unfold turnV
  omega
theorem boxed_inj {W : World} {Bb : Nat} {t : TypeId} {u v : Value} (h : Boxed W Bb t u) (k : Boxed W Bb t v) : u = v := by
  have e := h.cell.symm.trans k.cell
  simpa using e
/-- 'out = append(out, ..)' into a box: behind the append law's words, all that the walk owes -/
theorem app_box {W w1 : World} {n₀ Bo : Nat} {t e : TypeId} {size : Nat} {v v' : Value} {k m : Nat} {xs ys : List Value}
    (hv : Boxed W Bo t v) (hte : t ≠ e) (hrow : W.ownsRow n₀ e size v k xs) (hn₀ : n₀ ≤ W.heap.size) (hB : n₀ ≤ Bo) (hown' : w1.ownsRow n₀ e size v' m ys) (hgrow : W.grownBy w1 v.ownBlock) (ho : v'.ownBlock = v.ownBlock ∨ v'.ownBlock = some W.heap.size) :
    Boxed w1 Bo t v ∧ Boxed (w1.setCell ⟨Bo, 0, none⟩ v') Bo t v' ∧ (w1.setCell ⟨Bo, 0, none⟩ v').ownsRow n₀ e size v' m ys ∧ KeepsOthers W (w1.setCell ⟨Bo, 0, none⟩ v') ∧ Below n₀ W (w1.setCell ⟨Bo, 0, none⟩ v') ∧
      (∀ b, b < W.heap.size → b ≠ Bo → v.ownBlock ≠ some b → (w1.setCell ⟨Bo, 0, none⟩ v').heap[b]? = W.heap[b]?) ∧ (∀ b, b < W.heap.size → v.ownBlock ≠ some b → v'.ownBlock ≠ some b) ∧ W.heap.size ≤ (w1.setCell ⟨Bo, 0, none⟩ v').heap.size := by
  have hv1 : Boxed w1 Bo t v := hv.kept hgrow (hv.not_row hte hrow)
  refine ⟨hv1, hv1.set v', hown'.kept (grownBy_setCell' w1 Bo v') (.inr (hv1.not_row hte hown').symm), ?_, ?_, fun b hb hne hrw => ?_, fun b hb hrw => ?_, by simpa using hgrow.size⟩
  · refine (KeepsOthers.of_grownBy hgrow fun j o ej hj => ?_).trans (KeepsOthers.setCell _ _ _)
    rcases hrow.2 with ⟨rfl, _⟩ | ⟨g, cap, cur, rfl, _, hgb, _⟩
    · simp [Value.ownBlock] at ej
    · obtain rfl : g = j := by simpa [Value.ownBlock] using ej
      rw [hgb] at hj; cases hj; rfl
  · exact ((Below.refl n₀ W).grown hgrow hn₀ fun j ej => (hrow.lt j ej).1).setCell (p := ⟨Bo, 0, none⟩) hB v'
  · exact (Below.heap_setCell w1 ⟨Bo, 0, none⟩ v' b hne).trans (hgrow.block b hb (fun e' => hrw e'.symm))
  · rcases ho with ho | ho
    · rw [ho]; exact hrw
    · rw [ho]; intro e'; cases e'; omega
theorem okOp_call {P : Program} {ops : Array Oper} {i : Nat} {o : Oper} {a : Act} {w : World} {f : Nat} {args : Array Value} {Q : Ending → World → Prop} {K : Act → World → Prop} (hi : ops[i]? = some o) (hw : Region.wanted o (yielded ops a.tmps) = true) (hv : (execOp a.eval o).run P w = .ok (.enter f args) w)
    (hc : Calls P f args w Q) (h : ∀ e w', Q e w' → ∃ v, e = .returned v ∧ K (a.put o.dst v) w') : okOp P ops i K a w := by
  unfold okOp
  simp only [hi]
  rw [if_pos hw, hv]
  exact hc.mono h

set_option linter.unusedSimpArgs false in
set_option maxRecDepth 8000 in
set_option maxHeartbeats 4000000 in
theorem crossings_any (vp vq : Value) (l m : List Pt) (w : World) (hp : PtsAt w.heap.size w vp l) (hq : PtsAt w.heap.size w vq m) (hl : goValid l = true) (hm : goValid m = true) :
    Calls Try.prog 68 #[vp, vq] w (PtsQ (crossP l m) w) := by
  have GL : GoValid l := by simpa [goValid] using hl
  have GM : GoValid m := by simpa [goValid] using hm
  have hpl : ∀ i, placeP (sideP l i).1 = true ∧ placeP (sideP l i).2 = true := fun i => ⟨nth_place (fun k hk => (GL.2.2.1 k hk).1) _, nth_place (fun k hk => (GL.2.2.1 k hk).1) _⟩
  have hpm : ∀ i, placeP (sideP m i).1 = true ∧ placeP (sideP m i).2 = true := fun i => ⟨nth_place (fun k hk => (GM.2.2.1 k hk).1) _, nth_place (fun k hk => (GM.2.2.1 k hk).1) _⟩
  have l64 : l.length ≤ 64 := GL.2.1
  have m64 : m.length ≤ 64 := GM.2.1
  have HPL := Lib.hid (And.intro hpl hpm)
  have HP := Lib.hid (And.intro hp hq)
  obtain ⟨ap, capp, rfl⟩ := hp.len
  obtain ⟨aq, capq, rfl⟩ := hq.len
  obtain ⟨i0, hi, hz0', hz1', hz2'⟩ := info_parts ptInfo
  have hQ := (Has.new w #[.slice aq m.length (m.length + capq)] 22).below (((Below.refl (w.heap.size + 1) _).alloc (by simp) (.cells #[.slice none 0 0] 22)).alloc (by simp) (.cells #[.slice ap l.length (l.length + capp)] 22)) (by omega)
  have hO := (Boxed.new (w.alloc (.cells #[.slice aq m.length (m.length + capq)] 22)) 22 (.slice none 0 0)).alloc (.cells #[.slice ap l.length (l.length + capp)] 22)
  have hS := Boxed.new ((w.alloc (.cells #[.slice aq m.length (m.length + capq)] 22)).alloc (.cells #[.slice none 0 0] 22)) 22 (.slice ap l.length (l.length + capp))
  simp only [World.size_alloc] at hO hS
  have hBW := (((Below.refl w.heap.size w).alloc (Nat.le_refl _) (.cells #[.slice aq m.length (m.length + capq)] 22)).alloc (by simp) (.cells #[.slice none 0 0] 22)).alloc (by simp; omega) (.cells #[.slice ap l.length (l.length + capp)] 22)
  have hsz : (((w.alloc (.cells #[.slice aq m.length (m.length + capq)] 22)).alloc (.cells #[.slice none 0 0] 22)).alloc (.cells #[.slice ap l.length (l.length + capp)] 22)).heap.size = w.heap.size + 3 := by simp
  obtain ⟨W0, hW0⟩ : ∃ W0, ((w.alloc (.cells #[.slice aq m.length (m.length + capq)] 22)).alloc (.cells #[.slice none 0 0] 22)).alloc (.cells #[.slice ap l.length (l.length + capp)] 22) = W0 := ⟨_, rfl⟩
  rw [hW0] at hQ hO hS hBW hsz
  have HW := Lib.hid hW0
  have HQ := Lib.hid hQ
  have HO := Lib.hid hO
  have HS := Lib.hid hS
  have HBW := Lib.hid hBW
  clear hp hq GL GM hpl hpm hQ hO hS hBW hW0 hl hm
  refine (callsIn_wide (n := 9)).1 ?_; refine callsIn_of_wp_marks Try.func68 rfl trivial ?_ rfl; simp only [Try.ntmps68, List.size_toArray, List.length_cons, List.length_nil, Nat.reduceAdd, Nat.reduceSub, Array.replicate_succ, Array.replicate_zero, List.push_toArray, List.append_toArray, List.nil_append, List.cons_append]; refine wpIn_wide.2 ?_
  go_wp2_with (go_at_call 106; refine (csides_any _ _ _ _).mono ?_; rintro e w' ⟨rfl, rfl⟩)
  rw [HW.out]
  refine (wpIn_wide (n := 9)).1 ?_
  refine wpIn_rangeFunc_ownH rfl (by omega) (gf := 124) (lb := #[.pointer (some ⟨w.heap.size + 1 + 1, 0, none⟩)]) rfl trivial (enters_of Try.func124 (by kernel_rfl) rfl)
    (csides_stops (fun s : PlS => encS s.1) (fun i => ⟨sideP l i, HPL.out.1 i⟩) 8 (by omega) (fun b => b < w.heap.size + 1 ∨ b = w.heap.size + 1 + 1) (w.heap.size + 1 + 1) (w.heap.size + 1) _ l _ (.inr rfl) (fun b h => .inl h) (fun b h => by omega) HS.out.cell ((HP.out.1.below HBW.out).mono (by omega)) (fun _ _ => rfl))
    (fun h k => h.trans k) (fun W l' o o' hl' _ _ _ => KeepsP.putObj o' (fun b hb => by omega)) (Below.refl _ _) (fun _ => rfl)
    (fun pre W => (∃ v, Boxed W (w.heap.size + 1) 22 v ∧ W.ownsRow (w.heap.size + 1) 31 2 v (crossL (pre.map (·.1)) (sidesL m)).length (ptCells (crossL (pre.map (·.1)) (sidesL m))) ∧ v.ownBlock ≠ some (w.heap.size + 1 + 1)) ∧ Below (w.heap.size + 1) W0 W)
    (fun _ _ _ => False)
    (OwnFrom.and (Own.from (holdsRow_own _ _ _ _ _ _ _ (fun _ v => v.ownBlock ≠ some (w.heap.size + 1 + 1))) _) (ownFrom_below (by omega) (by omega)))
    (fun c => ownFrom_pure _ (fun _ => False))
    ⟨⟨_, HO.out, World.ownsRow_nil _ _ _ _, by simp [Value.ownBlock]⟩, Below.refl _ _⟩
    (fun x a' W => ∃ B1 B2, (Has W B1 #[.int .i64 x.1.1.x, .int .i64 x.1.1.y] 31 ∧ Has W B2 #[.int .i64 x.1.2.x, .int .i64 x.1.2.y] 31) ∧ (W0.heap.size ≤ B1 ∧ W0.heap.size ≤ B2) ∧ (∃ u, Boxed W (w.heap.size + 1) 22 u ∧ u.ownBlock ≠ some B1 ∧ u.ownBlock ≠ some B2) ∧ a' = { tmps := #[.slice ap l.length (l.length + capp), .slice aq m.length (m.length + capq), undef, .pointer (some ⟨w.heap.size, 0, none⟩), .slice none 0 0, .pointer (some ⟨w.heap.size + 1, 0, none⟩), .pointer (some ⟨B1, 0, none⟩), .pointer (some ⟨B2, 0, none⟩), undef, undef, undef, undef, .slice ap l.length (l.length + capp), .func (.func 124) #[] #[.pointer (some ⟨w.heap.size + 1 + 1, 0, none⟩)], .agg #[.int .i64 x.1.1.x, .int .i64 x.1.1.y], .agg #[.int .i64 x.1.2.x, .int .i64 x.1.2.y], undef, undef, undef, undef, undef, undef, undef, undef, undef, undef, undef, undef, undef, undef, undef, undef, undef, undef, undef, undef, undef, undef, undef, undef, undef, undef, undef, undef, undef, undef, undef, undef, undef, undef], defers := [] })
    (fun x a' _ X Y row hs hg hr => by obtain ⟨B1, B2, ⟨g1, g2⟩, g3, ⟨u, g4, g5⟩, g6⟩ := hs; exact ⟨B1, B2, ⟨has_kept g1 hg (fun r e => (hr r e).2), has_kept g2 hg (fun r e => (hr r e).2)⟩, g3, ⟨u, boxed_own (β := Unit) _ _ (fun _ => _) () X Y row g4 hg (fun r e => (hr r e).2), g5⟩, g6⟩)
    ?assign ?body ?done ?stop
  case assign =>
    rintro ll pre x W K ⟨⟨v, hv1, hv2, hvw⟩, hB1⟩ hK
    unfold encS
    gi_wp2
    have hzW := hB1.size
    exact hK _ _ (((KeepsOthers.alloc _ _).trans (KeepsOthers.alloc _ _)).from _) (KeepsP.of_below (((Below.refl (w.heap.size + 3) W).alloc (by omega) _).alloc (by simp; omega) _) (fun b hb => by omega))
      ⟨⟨v, (hv1.alloc _).alloc _, (hv2.alloc _).alloc _, hvw⟩, (hB1.alloc (by omega) _).alloc (by simp; omega) _⟩
      ⟨W.heap.size, W.heap.size + 1, ⟨Has.below (Has.new W _ _) ((Below.refl (W.heap.size + 1) _).alloc (by simp) _) (by omega), by have := Has.new (W.alloc (.cells #[.int .i64 x.1.1.x, .int .i64 x.1.1.y] 31)) #[.int .i64 x.1.2.x, .int .i64 x.1.2.y] 31; rwa [World.size_alloc] at this⟩, ⟨by omega, by omega⟩, ⟨v, (hv1.alloc _).alloc _, fun e => (by have := (hv2.lt _ e).2; omega), fun e => (by have := (hv2.lt _ e).2; omega)⟩, rfl⟩
  case body =>
    rintro ll pre ⟨⟨⟨ax, ay⟩, ⟨bx, by'⟩⟩, hxx⟩ a' W hll ⟨r, hr⟩ ⟨⟨v, hv1, hv2, hvw⟩, hB1⟩ ⟨B1, B2, ⟨g1, g2⟩, ⟨hb1, hb2⟩, ⟨u, hu1, hu2⟩, rfl⟩ hlt
    obtain rfl := boxed_inj hu1 hv1
    dsimp only at g1 g2 ⊢
    have pa := placeB_true hxx.1
    have pb := placeB_true hxx.2
    dsimp only at pa pb
    obtain ⟨S, hS⟩ : ∃ S : PlS, S = ⟨(⟨ax, ay⟩, ⟨bx, by'⟩), hxx⟩ := ⟨_, rfl⟩
    rw [← hS]
    have HSS := Lib.hid (show S.1 = (⟨ax, ay⟩, ⟨bx, by'⟩) by rw [hS])
    clear hS
    have hzW := hB1.size
    have hBWW := HBW.out.trans (hB1.mono (by omega))
    have hq0 := HQ.out.below hB1 (by omega)
    have cq : W.cell? ⟨w.heap.size, 0, none⟩ = some (.slice aq m.length (m.length + capq)) := hq0.cell (i := 0) rfl
    have hll' := Lib.hid hll
    have hr' := Lib.hid hr
    have hV1 := Lib.hid hv1
    have hV2 := Lib.hid hv2
    have hG := Lib.hid (And.intro g1 g2)
    have hU := Lib.hid (And.intro hu2 (And.intro hvw (show u.ownBlock ≠ some W.heap.size from fun e => by have := (hv2.lt _ e).2; omega)))
    have hBB1 := Lib.hid hB1
    have hBBW := Lib.hid hBWW
    have hlt' := Lib.hid hlt
    have lB1 := g1.lt
    have lB2 := g2.lt
    clear hll hr hv1 hv2 hvw g1 g2 hu1 hu2 hB1 hBWW hq0 hlt hxx
    gi_wp2_with (refine ⟨trivial, ?_⟩; gi_at_call 106; refine (CallsIn.inRound ll (callsIn_wide.2 (csides_any _ _ _ _))).mono ?_; rintro e w' ⟨rfl, rfl⟩)
    have hA := (Below.refl W.heap.size W).alloc (Nat.le_refl _) (.cells #[.slice aq m.length (m.length + capq)] 22)
    have bN := Boxed.new W 22 (.slice aq m.length (m.length + capq))
    have hV1' := hV1.out.alloc (.cells #[.slice aq m.length (m.length + capq)] 22)
    have hV2' := hV2.out.alloc (.cells #[.slice aq m.length (m.length + capq)] 22)
    have hzz : (W.alloc (.cells #[.slice aq m.length (m.length + capq)] 22)).heap.size = W.heap.size + 1 := by simp
    have hKO := KeepsOthers.alloc W (.cells #[.slice aq m.length (m.length + capq)] 22)
    obtain ⟨W2, hW2⟩ : ∃ W2, W.alloc (.cells #[.slice aq m.length (m.length + capq)] 22) = W2 := ⟨_, rfl⟩
    rw [hW2] at hA bN hV1' hV2' hzz hKO ⊢
    clear hW2
    have hL2 := (hA.block ll (Array.getElem?_eq_some_iff.1 hr'.out).1).trans hr'.out
    have hB2 := hBBW.out.trans (hA.mono hBBW.out.size)
    refine wpIn_rangeFunc_ownN (l₀ := ll) rfl hL2 (by omega) (gf := 124) (lb := #[.pointer (some ⟨W.heap.size, 0, none⟩)]) rfl trivial (enters_of Try.func124 (by kernel_rfl) rfl)
      ((csides_stops (fun s : PlS => encS s.1) (fun i => ⟨sideP m i, HPL.out.2 i⟩) 6 (by omega) (fun b => b < w.heap.size + 1 ∨ b = W.heap.size) W.heap.size (w.heap.size + 1) _ m _ (.inr rfl) (fun b h => .inl h) (fun b h => by omega) bN.cell ((HP.out.2.below hB2).mono (by omega)) (fun _ _ => rfl)).inRound ll)
      (fun h k => h.trans k) (fun W' l' o o' hl' _ _ _ => KeepsP.putObj o' (fun b hb => by omega)) (Below.refl _ _) (fun _ => rfl)
      (fun pre2 X => (∃ v, Boxed X (w.heap.size + 1) 22 v ∧ X.ownsRow (w.heap.size + 1) 31 2 v (crossL (pre.map (·.1)) (sidesL m) ++ rowS S.1 (pre2.map (·.1))).length (ptCells (crossL (pre.map (·.1)) (sidesL m) ++ rowS S.1 (pre2.map (·.1)))) ∧ ((v.ownBlock ≠ some B1 ∧ v.ownBlock ≠ some B2) ∧ (v.ownBlock ≠ some (w.heap.size + 1 + 1) ∧ v.ownBlock ≠ some W.heap.size))) ∧
        ((Has X B1 #[.int .i64 ax, .int .i64 ay] 31 ∧ Has X B2 #[.int .i64 bx, .int .i64 by'] 31) ∧ (Below (w.heap.size + 1) W0 X ∧ (KeepsFrom W0.heap.size W2 X ∧ KeepsP (fun b => b < w.heap.size + 1 ∨ b = w.heap.size + 1 + 1) W2 X))))
      (fun _ _ _ => False)
      (OwnFrom.and (Own.from (holdsRow_own _ _ _ _ _ _ _ (fun _ v => (v.ownBlock ≠ some B1 ∧ v.ownBlock ≠ some B2) ∧ (v.ownBlock ≠ some (w.heap.size + 1 + 1) ∧ v.ownBlock ≠ some W.heap.size))) _) (OwnFrom.and (OwnFrom.and (Own.from (has_own _ _ _) _) (Own.from (has_own _ _ _) _)) (OwnFrom.and (ownFrom_below (by omega) (by omega)) (OwnFrom.and (ownFrom_keepsFrom (Nat.le_refl _)) (ownFrom_keepsP _ (fun b hb => by omega))))))
      (fun c => ownFrom_pure _ (fun _ => False))
      ⟨⟨u, hV1', by simpa [rowS] using hV2', hU.out⟩, ⟨hG.out.1.below hA lB1, hG.out.2.below hA lB2⟩, hBB1.out.trans (hA.mono (by omega)), KeepsFrom.refl _ _, KeepsP.refl _ _⟩
      (fun y a' X => ∃ B3 B4, (Has X B3 #[.int .i64 y.1.1.x, .int .i64 y.1.1.y] 31 ∧ Has X B4 #[.int .i64 y.1.2.x, .int .i64 y.1.2.y] 31) ∧ (W2.heap.size ≤ B3 ∧ W2.heap.size ≤ B4) ∧ (∃ u, Boxed X (w.heap.size + 1) 22 u ∧ u.ownBlock ≠ some B3 ∧ u.ownBlock ≠ some B4) ∧ a' = { tmps := #[.slice ap l.length (l.length + capp), .slice aq m.length (m.length + capq), undef, .pointer (some ⟨w.heap.size, 0, none⟩), .slice none 0 0, .pointer (some ⟨w.heap.size + 1, 0, none⟩), .pointer (some ⟨B1, 0, none⟩), .pointer (some ⟨B2, 0, none⟩), .pointer (some ⟨B3, 0, none⟩), .pointer (some ⟨B4, 0, none⟩), undef, undef, .slice ap l.length (l.length + capp), .func (.func 124) #[] #[.pointer (some ⟨w.heap.size + 1 + 1, 0, none⟩)], .agg #[.int .i64 ax, .int .i64 ay], .agg #[.int .i64 bx, .int .i64 by'], .slice aq m.length (m.length + capq), .func (.func 124) #[] #[.pointer (some ⟨W.heap.size, 0, none⟩)], .agg #[.int .i64 y.1.1.x, .int .i64 y.1.1.y], .agg #[.int .i64 y.1.2.x, .int .i64 y.1.2.y], undef, undef, undef, undef, undef, undef, undef, undef, undef, undef, undef, undef, undef, undef, undef, undef, undef, undef, undef, undef, undef, undef, undef, undef, undef, undef, undef, undef, undef, undef], defers := [] })
      (fun x a' _ X Y row hs hg hr => by obtain ⟨B3, B4, ⟨g1, g2⟩, g3, ⟨u, g4, g5⟩, g6⟩ := hs; exact ⟨B3, B4, ⟨has_kept g1 hg (fun r e => (hr r e).2), has_kept g2 hg (fun r e => (hr r e).2)⟩, g3, ⟨u, boxed_own (β := Unit) _ _ (fun _ => _) () X Y row g4 hg (fun r e => (hr r e).2), g5⟩, g6⟩)
      ?assign2 ?body2 ?done2 ?stop2
    case assign2 =>
      rintro ll2 pre2 y X K ⟨⟨v, hv1, hv2, hv3⟩, ⟨g1, g2⟩, hB3, hKF, hKP⟩ hK
      unfold encS
      gi_wp2
      have hzX := hKF.size
      have hzX2 := hB3.size
      have lX1 := g1.lt
      have lX2 := g2.lt
      have hal := ((Below.refl X.heap.size X).alloc (Nat.le_refl _) (.cells #[.int .i64 y.1.1.x, .int .i64 y.1.1.y] 31)).alloc (by simp) (.cells #[.int .i64 y.1.2.x, .int .i64 y.1.2.y] 31)
      have hko := (KeepsOthers.alloc X (.cells #[.int .i64 y.1.1.x, .int .i64 y.1.1.y] 31)).trans (KeepsOthers.alloc _ (.cells #[.int .i64 y.1.2.x, .int .i64 y.1.2.y] 31))
      exact hK _ _ (hko.from _) (KeepsP.of_below hal (fun b hb => by omega))
        ⟨⟨v, (hv1.alloc _).alloc _, (hv2.alloc _).alloc _, hv3⟩, ⟨g1.below hal lX1, g2.below hal lX2⟩, hB3.trans (hal.mono (by omega)), hKF.trans (hko.from _), hKP.trans (KeepsP.of_below hal (fun b hb => by omega))⟩
        ⟨X.heap.size, X.heap.size + 1, ⟨Has.below (Has.new X _ _) ((Below.refl (X.heap.size + 1) _).alloc (by simp) _) (by omega), by have := Has.new (X.alloc (.cells #[.int .i64 y.1.1.x, .int .i64 y.1.1.y] 31)) #[.int .i64 y.1.2.x, .int .i64 y.1.2.y] 31; rwa [World.size_alloc] at this⟩, ⟨by omega, by omega⟩, ⟨v, (hv1.alloc _).alloc _, fun e => (by have := (hv2.lt _ e).2; omega), fun e => (by have := (hv2.lt _ e).2; omega)⟩, rfl⟩
    case body2 =>
      rintro ll2 pre2 ⟨⟨⟨cx, cy⟩, ⟨dx, dy⟩⟩, hyy⟩ a' X hll2 ⟨r2, hr2⟩ ⟨⟨v, hv1, hv2, hv3⟩, ⟨g1, g2⟩, hB3, hKF, hKP⟩ ⟨B3, B4, ⟨g3, g4⟩, ⟨hb3, hb4⟩, ⟨u', hu1, hu2⟩, rfl⟩ hlt2
      obtain rfl := boxed_inj hv1 hu1
      dsimp only at g3 g4 ⊢
      have pc := placeB_true hyy.1
      have pd := placeB_true hyy.2
      dsimp only at pc pd
      obtain ⟨T, hT⟩ : ∃ T : PlS, T = ⟨(⟨cx, cy⟩, ⟨dx, dy⟩), hyy⟩ := ⟨_, rfl⟩
      rw [← hT]
      have HTT := Lib.hid (show T.1 = (⟨cx, cy⟩, ⟨dx, dy⟩) by rw [hT])
      have hyc := Lib.hid hyy
      clear hT hyy
      have t1 := fun w1 => cturn_any ax ay bx by' cx cy w1 (by omega) (by omega) (by omega) (by omega) (by omega) (by omega) (by omega) (by omega) (by omega) (by omega) (by omega) (by omega)
      have t2 := fun w1 => cturn_any ax ay bx by' dx dy w1 (by omega) (by omega) (by omega) (by omega) (by omega) (by omega) (by omega) (by omega) (by omega) (by omega) (by omega) (by omega)
      have t3 := fun w1 => cturn_any cx cy dx dy ax ay w1 (by omega) (by omega) (by omega) (by omega) (by omega) (by omega) (by omega) (by omega) (by omega) (by omega) (by omega) (by omega)
      have t4 := fun w1 => cturn_any cx cy dx dy bx by' w1 (by omega) (by omega) (by omega) (by omega) (by omega) (by omega) (by omega) (by omega) (by omega) (by omega) (by omega) (by omega)
      have bs := turnV_bd (a := ⟨ax, ay⟩) (b := ⟨bx, by'⟩) (c := ⟨cx, cy⟩) pa pb pc
      have bt := turnV_bd (a := ⟨ax, ay⟩) (b := ⟨bx, by'⟩) (c := ⟨dx, dy⟩) pa pb pd
      dsimp only at bs bt
      have hcst : Hid (crossST S.1 T.1 = if (crossB (turnV ax ay bx by' cx cy) (turnV ax ay bx by' dx dy) && crossB (turnV cx cy dx dy ax ay) (turnV cx cy dx dy bx by')) = true then frameP ⟨cx, cy⟩ ⟨dx, dy⟩ (turnV ax ay bx by' cx cy) (turnV ax ay bx by' dx dy) else []) := by
        show crossST S.1 T.1 = _
        rw [HSS.out, HTT.out]; rfl
      generalize turnV ax ay bx by' cx cy = s at *
      generalize turnV ax ay bx by' dx dy = t at *
      generalize turnV cx cy dx dy ax ay = p at *
      generalize turnV cx cy dx dy bx by' = q at *
      have HT := Lib.hid (And.intro t1 (And.intro t2 (And.intro t3 t4)))
      have hzX := hKF.size
      have hzX2 := hB3.size
      have lX1 := g1.lt
      have lX2 := g2.lt
      have lX3 := g3.lt
      have lX4 := g4.lt
      have la0 := Low.fact (g1.cell (i := 0) rfl : X.cell? ⟨B1, 0, none⟩ = some (.int .i64 ax))
      have la1 := Low.fact (g1.cell (i := 1) rfl : X.cell? ⟨B1, 1, none⟩ = some (.int .i64 ay))
      have lb0 := Low.fact (g2.cell (i := 0) rfl : X.cell? ⟨B2, 0, none⟩ = some (.int .i64 bx))
      have lb1 := Low.fact (g2.cell (i := 1) rfl : X.cell? ⟨B2, 1, none⟩ = some (.int .i64 by'))
      have lc0 := Low.fact (g3.cell (i := 0) rfl : X.cell? ⟨B3, 0, none⟩ = some (.int .i64 cx))
      have lc1 := Low.fact (g3.cell (i := 1) rfl : X.cell? ⟨B3, 1, none⟩ = some (.int .i64 cy))
      have ld0 := Low.fact (g4.cell (i := 0) rfl : X.cell? ⟨B4, 0, none⟩ = some (.int .i64 dx))
      have ld1 := Low.fact (g4.cell (i := 1) rfl : X.cell? ⟨B4, 1, none⟩ = some (.int .i64 dy))
      have HG := Lib.hid (And.intro g1 (And.intro g2 (And.intro g3 g4)))
      have HV := Lib.hid (And.intro hv1 (And.intro hv2 (And.intro hv3 hu2)))
      have HB := Lib.hid (And.intro hB3 (And.intro hKF hKP))
      have hll2' := Lib.hid hll2
      have hlt2' := Lib.hid hlt2
      have hpab := Lib.hid (And.intro pa pb)
      clear t1 t2 t3 t4 g1 g2 g3 g4 hv1 hv2 hv3 hu1 hu2 hB3 hKF hKP hll2 hlt2 hr2 pa pb pc pd
      gi_wp2
      (refine wpIn_region_low (lets_inRound _ _) (by kernel_rfl) (by kernel_rfl) (by kernel_rfl) ?_; (iterate 10 (apply quiet_want; (case hw => rfl); (case hval => (intro w1 hw1; have hcx := Low.cells hw1; simp only [Oper.quietAt]; go_simp; first | done | (first | (go_at_call 107; with_reducible exact Low.calls hw1 (HT.out.1 _)) | (go_at_call 107; with_reducible exact Low.calls hw1 (HT.out.2.1 _))) | rfl | exact ⟨rfl, rfl⟩)); simp only [Act.put, List.setIfInBounds_toArray, List.set_cons_zero, List.set_cons_succ])); refine wpQuiet_nil ?_; intro w2 hw2)
      obtain ⟨XX, rfl⟩ : ∃ XX, XX = w2 := ⟨_, rfl⟩
      have hX2 := Lib.hid hw2.out
      clear la0 la1 lb0 lb1 lc0 lc1 ld0 ld1 hw2
      have la0 := Low.fact ((HG.out.1.below hX2.out lX1).cell (i := 0) rfl : XX.cell? ⟨B1, 0, none⟩ = some (.int .i64 ax))
      have la1 := Low.fact ((HG.out.1.below hX2.out lX1).cell (i := 1) rfl : XX.cell? ⟨B1, 1, none⟩ = some (.int .i64 ay))
      have lb0 := Low.fact ((HG.out.2.1.below hX2.out lX2).cell (i := 0) rfl : XX.cell? ⟨B2, 0, none⟩ = some (.int .i64 bx))
      have lb1 := Low.fact ((HG.out.2.1.below hX2.out lX2).cell (i := 1) rfl : XX.cell? ⟨B2, 1, none⟩ = some (.int .i64 by'))
      have lc0 := Low.fact ((HG.out.2.2.1.below hX2.out lX3).cell (i := 0) rfl : XX.cell? ⟨B3, 0, none⟩ = some (.int .i64 cx))
      have lc1 := Low.fact ((HG.out.2.2.1.below hX2.out lX3).cell (i := 1) rfl : XX.cell? ⟨B3, 1, none⟩ = some (.int .i64 cy))
      have ld0 := Low.fact ((HG.out.2.2.2.below hX2.out lX4).cell (i := 0) rfl : XX.cell? ⟨B4, 0, none⟩ = some (.int .i64 dx))
      have ld1 := Low.fact ((HG.out.2.2.2.below hX2.out lX4).cell (i := 1) rfl : XX.cell? ⟨B4, 1, none⟩ = some (.int .i64 dy))
      gi_wp2
      cases c1 : crossB s t
      · have hc1 := Lib.hid (fun w1 => (c1 ▸ crosses_any s t w1 : Calls Try.prog 108 #[.int .i64 s, .int .i64 t] w1 fun e w' => e = .returned (.bool false) ∧ w1 = w'))
        (refine wpIn_region_low (lets_inRound _ _) (by kernel_rfl) (by kernel_rfl) (by kernel_rfl) ?_; (iterate 4 (apply quiet_want; (case hw => rfl); (case hval => (intro w1 hw1; have hcx := Low.cells hw1; simp only [Oper.quietAt]; go_simp; first | done | (first | (go_at_call 108; with_reducible exact Low.calls_same hw1 (hc1.out _))) | rfl | exact ⟨rfl, rfl⟩)); simp only [Act.put, List.setIfInBounds_toArray, List.set_cons_zero, List.set_cons_succ])); (iterate 9 (apply quiet_skip; (case hw => rfl); simp only [Act.put, List.setIfInBounds_toArray, List.set_cons_zero, List.set_cons_succ])); (iterate 1 (apply quiet_want; (case hw => rfl); (case hval => (intro w1 hw1; have hcx := Low.cells hw1; simp only [Oper.quietAt]; go_simp; first | done | (first | (go_at_call 108; with_reducible exact Low.calls_same hw1 (hc1.out _))) | rfl | exact ⟨rfl, rfl⟩)); simp only [Act.put, List.setIfInBounds_toArray, List.set_cons_zero, List.set_cons_succ])); refine wpQuiet_nil ?_; intro w2 hw2)
        gi_wp2
        have hbb := hX2.out.trans (hw2.out.mono hX2.out.size)
        refine ⟨keeps_of_below hbb, KeepsP.of_below hbb (fun b hb => by omega), ⟨v, Boxed.below HV.out.1 hbb HV.out.1.lt, ?_, HV.out.2.2.1⟩, ⟨HG.out.1.below hbb lX1, HG.out.2.1.below hbb lX2⟩, HB.out.1.trans (hbb.mono (by omega)), HB.out.2.1.trans (keeps_of_below hbb), HB.out.2.2.trans (KeepsP.of_below hbb (fun b hb => by omega))⟩
        rw [List.map_append, rowS_append, show rowS S.1 ([T].map (·.1)) = [] by simp [rowS, hcst.out, c1], List.append_nil]
        exact prow_below HV.out.2.1 hbb
      · have hc1 := Lib.hid (fun w1 => (c1 ▸ crosses_any s t w1 : Calls Try.prog 108 #[.int .i64 s, .int .i64 t] w1 fun e w' => e = .returned (.bool true) ∧ w1 = w'))
        cases c2 : crossB p q
        · have hc2 := Lib.hid (fun w1 => (c2 ▸ crosses_any p q w1 : Calls Try.prog 108 #[.int .i64 p, .int .i64 q] w1 fun e w' => e = .returned (.bool false) ∧ w1 = w'))
          (refine wpIn_region_low (lets_inRound _ _) (by kernel_rfl) (by kernel_rfl) (by kernel_rfl) ?_; (iterate 14 (apply quiet_want; (case hw => rfl); (case hval => (intro w1 hw1; have hcx := Low.cells hw1; simp only [Oper.quietAt]; go_simp; first | done | (first | (go_at_call 108; with_reducible exact Low.calls_same hw1 (hc1.out _)) | (go_at_call 108; with_reducible exact Low.calls_same hw1 (hc2.out _)) | (go_at_call 107; with_reducible exact Low.calls hw1 (HT.out.2.2.1 _)) | (go_at_call 107; with_reducible exact Low.calls hw1 (HT.out.2.2.2 _))) | rfl | exact ⟨rfl, rfl⟩)); simp only [Act.put, List.setIfInBounds_toArray, List.set_cons_zero, List.set_cons_succ])); refine wpQuiet_nil ?_; intro w2 hw2)
          gi_wp2
          have hbb := hX2.out.trans (hw2.out.mono hX2.out.size)
          refine ⟨keeps_of_below hbb, KeepsP.of_below hbb (fun b hb => by omega), ⟨v, Boxed.below HV.out.1 hbb HV.out.1.lt, ?_, HV.out.2.2.1⟩, ⟨HG.out.1.below hbb lX1, HG.out.2.1.below hbb lX2⟩, HB.out.1.trans (hbb.mono (by omega)), HB.out.2.1.trans (keeps_of_below hbb), HB.out.2.2.trans (KeepsP.of_below hbb (fun b hb => by omega))⟩
          rw [List.map_append, rowS_append, show rowS S.1 ([T].map (·.1)) = [] by simp [rowS, hcst.out, c1, c2], List.append_nil]
          exact prow_below HV.out.2.1 hbb
        · have hc2 := Lib.hid (fun w1 => (c2 ▸ crosses_any p q w1 : Calls Try.prog 108 #[.int .i64 p, .int .i64 q] w1 fun e w' => e = .returned (.bool true) ∧ w1 = w'))
          (refine wpIn_region_low (lets_inRound _ _) (by kernel_rfl) (by kernel_rfl) (by kernel_rfl) ?_; (iterate 14 (apply quiet_want; (case hw => rfl); (case hval => (intro w1 hw1; have hcx := Low.cells hw1; simp only [Oper.quietAt]; go_simp; first | done | (first | (go_at_call 108; with_reducible exact Low.calls_same hw1 (hc1.out _)) | (go_at_call 108; with_reducible exact Low.calls_same hw1 (hc2.out _)) | (go_at_call 107; with_reducible exact Low.calls hw1 (HT.out.2.2.1 _)) | (go_at_call 107; with_reducible exact Low.calls hw1 (HT.out.2.2.2 _))) | rfl | exact ⟨rfl, rfl⟩)); simp only [Act.put, List.setIfInBounds_toArray, List.set_cons_zero, List.set_cons_succ])); refine wpQuiet_nil ?_; intro w2 hw2)
          gi_wp2
          have hY := hX2.out.trans (hw2.out.mono hX2.out.size)
          have hne : ¬ s - t = 0 := by
            simp only [crossB, decide_eq_true_eq] at c1
            omega
          have bY := Boxed.below HV.out.1 hY HV.out.1.lt
          have rY := prow_below HV.out.2.1 hY
          have g3Y := HG.out.2.2.1.below hY lX3
          have g4Y := HG.out.2.2.2.below hY lX4
          have hcr : Hid (crossST S.1 T.1 = frameP ⟨cx, cy⟩ ⟨dx, dy⟩ s t) := by
            show crossST S.1 T.1 = _
            rw [hcst.out, c1, c2]; rfl
          clear la0 la1 lb0 lb1 lc0 lc1 ld0 ld1 hw2 c1 c2
          refine wpIn_region_sched (lets_inRound _ _) 7 (fun Z => Boxed Z (w.heap.size + 1) 22 v ∧ Has Z B3 #[.int .i64 cx, .int .i64 cy] 31 ∧ Has Z B4 #[.int .i64 dx, .int .i64 dy] 31) (by kernel_rfl) (by kernel_rfl) (by kernel_rfl) fun hH inv0 => ?_
          refine sched_take hH (i := 0) (v := v) (drop_get rfl) (by omega) inv0 (by kernel_rfl) (by kernel_rfl) rfl (fun X hX => ?_) fun inv1 => ?_
          · have hx := hX.1.cell; go_simp
          simp only [Act.put, List.setIfInBounds_toArray, List.set_cons_zero, List.set_cons_succ]
          refine sched_take hH (i := 1) (v := .agg #[.int .i64 cx, .int .i64 cy]) (drop_get rfl) (by omega) inv1 (by kernel_rfl) (by kernel_rfl) rfl (fun X hX => ?_) fun inv2 => ?_
          · have hx := hX.2.1.cell (i := 0) rfl; have hy := hX.2.1.cell (i := 1) rfl; go_simp
          simp only [Act.put, List.setIfInBounds_toArray, List.set_cons_zero, List.set_cons_succ]
          refine sched_take hH (i := 2) (v := .agg #[.int .i64 dx, .int .i64 dy]) (drop_get rfl) (by omega) inv2 (by kernel_rfl) (by kernel_rfl) rfl (fun X hX => ?_) fun inv3 => ?_
          · have hx := hX.2.2.cell (i := 0) rfl; have hy := hX.2.2.cell (i := 1) rfl; go_simp
          simp only [Act.put, List.setIfInBounds_toArray, List.set_cons_zero, List.set_cons_succ]
          refine sched_take hH (i := 3) (v := .int .i64 s) (drop_get rfl) (by omega) inv3 (by kernel_rfl) (by kernel_rfl) rfl (fun X hX => ?_) fun inv4 => ?_
          · go_simp
          simp only [Act.put, List.setIfInBounds_toArray, List.set_cons_zero, List.set_cons_succ]
          refine sched_take hH (i := 4) (v := .int .i64 t) (drop_get rfl) (by omega) inv4 (by kernel_rfl) (by kernel_rfl) rfl (fun X hX => ?_) fun inv5 => ?_
          · go_simp
          simp only [Act.put, List.setIfInBounds_toArray, List.set_cons_zero, List.set_cons_succ]
          clear inv0 inv1 inv2 inv3 inv4 inv5 hH
          have hZ0 := hY.drew
          have bZ : Boxed w2.drew (w.heap.size + 1) 22 v := bY
          have rZ := prow_below rY (Below.drew (Below.refl w2.heap.size w2))
          have g3Z : Has w2.drew B3 #[.int .i64 cx, .int .i64 cy] 31 := g3Y
          have g4Z : Has w2.drew B4 #[.int .i64 dx, .int .i64 dy] 31 := g4Y
          generalize w2.drew = Z0 at hZ0 bZ rZ g3Z g4Z ⊢
          refine sched_all (rs := [5]) (by kernel_rfl) (by simp) ⟨bZ, g3Z, g4Z⟩ (by simp) (fun i hi' => ?_)
          simp only [List.mem_cons, List.not_mem_nil, or_false] at hi'
          subst hi'
          refine okOp_call (drop_get rfl) rfl (by go_simp) (frame_any ⟨cx, cy⟩ ⟨dx, dy⟩ s t Z0 hyc.out.1 hyc.out.2 bs.1 bs.2 bt.1 bt.2 hne) (fun e Z1 hq => ?_)
          obtain ⟨vf, rfl, hI, hb⟩ := hq
          refine ⟨vf, rfl, ?_⟩
          simp only [Act.put, List.setIfInBounds_toArray, List.set_cons_zero, List.set_cons_succ]
          obtain ⟨_, af, capf, rfl, hcf⟩ := hI
          obtain ⟨bf, of, rfl, hbf, hcf⟩ : ∃ b o, af = some ⟨b, o, none⟩ ∧ b < Z1.heap.size ∧ ∀ j, j < (frameP ⟨cx, cy⟩ ⟨dx, dy⟩ s t).length → Z1.cell? ⟨b, o + j * 2, none⟩ = some (.int .i64 (nth (frameP ⟨cx, cy⟩ ⟨dx, dy⟩ s t) j).x) ∧ Z1.cell? ⟨b, o + j * 2 + 1, none⟩ = some (.int .i64 (nth (frameP ⟨cx, cy⟩ ⟨dx, dy⟩ s t) j).y) := by
            rcases hcf with h | h
            · simp [frameP] at h
            · exact h
          have hZ1 := hZ0.trans (hb.mono hZ0.size)
          have b1 := Boxed.below bZ hb bZ.lt
          have r1 := prow_below rZ hb
          have g31 := g3Z.below hb g3Z.lt
          have g41 := g4Z.below hb g4Z.lt
          have hz1 := hZ1.size
          have hlen1 := crossL_len (sidesL m) (pre.map (·.1))
          have hlen2 := rowS_len S.1 (pre2.map (·.1))
          have hlm : (sidesL m).length = m.length := by simp [sidesL, upto]
          have hpl1 : pre.length ≤ 64 := by have := hlt'.out; omega
          have hpl2 : pre2.length ≤ 64 := by have := hlt2'.out; omega
          simp only [List.length_map, hlm] at hlen1 hlen2
          have hlen3 : 4 * m.length * pre.length ≤ 16384 := Nat.mul_le_mul (show 4 * m.length ≤ 256 by omega) hpl1
          have hlf : (frameP ⟨cx, cy⟩ ⟨dx, dy⟩ s t).length = 4 := rfl
          refine sched_all (rs := [6]) (by kernel_rfl) (by simp) ⟨b1, g31, g41⟩ (by simp) (fun i hi' => ?_)
          simp only [List.mem_cons, List.not_mem_nil, or_false] at hi'
          subst hi'
          refine okOp_append (drop_get rfl) rfl (.tmp 42) (.tmp 47) 22 rfl (w.heap.size + 1) 31 i0 (.agg #[.int .i64 0, .int .i64 0]) 2 16 Try.underlying22 hi hz0' hz1' hz2' rfl (by decide) _ _ _ rfl r1 ⟨bf, of, none⟩ 4 (4 + capf) (ptCells (frameP ⟨cx, cy⟩ ⟨dx, dy⟩ s t)) rfl (ptCells_len _) (pt_add hcf) (ptCells_one _) (by rw [List.length_append]; unfold maxLen; omega) (by rw [List.length_append]; omega) (by omega) ?_
          intro v' Z2 hown' hgrow ho
          obtain ⟨n5, hn5⟩ : ∃ n5, (crossL (pre.map (·.1)) (sidesL m) ++ rowS S.1 (pre2.map (·.1))).length + 4 = n5 := ⟨_, rfl⟩
          rw [hn5] at hown'
          obtain ⟨g5, cap5, rfl⟩ := prow_shape hown' (by omega)
          simp only [Act.put, List.setIfInBounds_toArray, List.set_cons_zero, List.set_cons_succ]
          obtain ⟨a1, a2, a3, a4, a5, a6, a7, a8⟩ := app_box b1 (by decide) r1 (by omega) (Nat.le_refl _) hown' hgrow ho
          have s3 : Has Z2 B3 #[.int .i64 cx, .int .i64 cy] 31 := (hgrow.block B3 g31.lt (fun e => HV.out.2.2.2.1 e.symm)).trans g31
          have s4 : Has Z2 B4 #[.int .i64 dx, .int .i64 dy] 31 := (hgrow.block B4 g41.lt (fun e => HV.out.2.2.2.2 e.symm)).trans g41
          refine sched_done (by kernel_rfl) ⟨a1, s3, s4⟩ ?_
          simp only [List.drop_succ_cons, List.drop_zero]
          have x1 := a1.cell
          have y1 := a1.frozen
          have HA := Lib.hid (And.intro a2 (And.intro a3 (And.intro a4 (And.intro a5 (And.intro a6 (And.intro a7 a8))))))
          clear a1 a2 a3 a4 a5 a6 a7 a8 s3 s4
          gi_wp2
          obtain ⟨a2, a3, a4, a5, a6, a7, a8⟩ := HA.out
          obtain ⟨⟨n1, n2⟩, n3, n4⟩ := HV.out.2.2.1
          have hkf : KeepsFrom (w.heap.size + 3) W2 X := hsz ▸ HB.out.2.1
          have kp : ∀ b, b < X.heap.size → b ≠ w.heap.size + 1 → v.ownBlock ≠ some b → (Z2.setCell ⟨w.heap.size + 1, 0, none⟩ (.slice (some ⟨g5, 0, none⟩) n5 cap5)).heap[b]? = X.heap[b]? := fun b h1 h2 h3 => (a6 b (by omega) h2 h3).trans (hZ1.block b h1)
          have kq : ∀ b, b < w.heap.size + 1 → (Z2.setCell ⟨w.heap.size + 1, 0, none⟩ (.slice (some ⟨g5, 0, none⟩) n5 cap5)).heap[b]? = X.heap[b]? := fun b h1 => (a5.block b h1).trans (hZ1.block b (by omega))
          refine ⟨(keeps_of_below hZ1).trans (a4.from _), ⟨by omega, fun b hb => ?_⟩, ⟨_, a2, ?_, ⟨a7 _ (by omega) n1, a7 _ (by omega) n2⟩, a7 _ (by omega) n3, a7 _ (by omega) n4⟩, ⟨?_, ?_⟩, (HB.out.1.trans (hZ1.mono (by omega))).trans (a5.mono (Nat.le_refl _)), hkf.trans ((keeps_of_below hZ1).trans (a4.from _)), HB.out.2.2.trans ⟨by omega, fun b hb => ?_⟩⟩
          · rcases hb with h | rfl
            · exact kq b h
            · exact kp _ (by omega) (by omega) n4
          · rw [List.map_append, rowS_append, show rowS S.1 ([T].map (·.1)) = frameP ⟨cx, cy⟩ ⟨dx, dy⟩ s t by simp [rowS, hcr.out], show (crossL (pre.map (·.1)) (sidesL m)).length + (rowS S.1 (pre2.map (·.1)) ++ frameP ⟨cx, cy⟩ ⟨dx, dy⟩ s t).length = n5 by rw [← hn5]; simp only [List.length_append, hlf]; omega, show ptCells (crossL (pre.map (·.1)) (sidesL m) ++ (rowS S.1 (pre2.map (·.1)) ++ frameP ⟨cx, cy⟩ ⟨dx, dy⟩ s t)) = ptCells (crossL (pre.map (·.1)) (sidesL m) ++ rowS S.1 (pre2.map (·.1))) ++ ptCells (frameP ⟨cx, cy⟩ ⟨dx, dy⟩ s t) by rw [← List.append_assoc, ptCells_append]]
            exact a3
          · exact (kp B1 lX1 (by omega) n1).trans HG.out.1
          · exact (kp B2 lX2 (by omega) n2).trans HG.out.2.1
          · rcases hb with h | rfl
            · exact kq b h
            · exact kp _ (by omega) (by omega) n3
    case done2 =>
      rintro xs X rfl ⟨⟨v, hv1, hv2, hv3⟩, ⟨g1, g2⟩, hB3, hKF, hKP⟩
      have hrw : (crossL (pre.map (·.1)) (sidesL m) ++ rowS S.1 ((upto (fun i => (⟨sideP m i, HPL.out.2 i⟩ : PlS)) m.length).map (·.1))) = crossL ((pre ++ [S]).map (·.1)) (sidesL m) := by
        rw [List.map_append, crossL_append]
        simp [crossL, sidesL, upto, Function.comp_def]
      rw [hrw] at hv2
      gi_wp2
      rw [hsz] at hKF
      exact ⟨(hKO.from _).trans hKF, (KeepsP.of_below hA (fun b hb => by omega)).trans hKP, ⟨v, hv1, hv2, hv3.2.1⟩, hB3⟩
    case stop2 =>
      rintro c pre2 X _ hF
      exact hF.elim
  case done =>
    rintro D ys W hD rfl ⟨⟨v, hv1, hv2, _⟩, hB1⟩ hK
    have hrw : crossL ((upto (fun i => (⟨sideP l i, HPL.out.1 i⟩ : PlS)) l.length).map (·.1)) (sidesL m) = crossP l m := by
      simp [crossP, sidesL, upto, Function.comp_def]
    rw [hrw] at hv2
    have hlen := crossL_len (sidesL m) (sidesL l)
    have hc := hv1.cell
    have hp := ownsRow_putObj hv2 (.deferred none) hK rfl
    have hsl : (sidesL l).length = l.length := by simp [sidesL, upto]
    have hsm : (sidesL m).length = m.length := by simp [sidesL, upto]
    rw [hsl, hsm] at hlen
    have hlen3 : 4 * m.length * l.length ≤ 16384 := Nat.mul_le_mul (show 4 * m.length ≤ 256 by omega) l64
    have hI := PtsAt.own hp (by unfold crossP; omega)
    have HI := Lib.hid hI
    have HK := Lib.hid hK
    have HBL := Lib.hid ((HBW.out.trans (hB1.mono (by omega))))
    clear hv1 hv2 hB1 hp hI hK hrw
    go_wp2
    refine ⟨by simp, .inl ⟨_, _, rfl, run_takeDeferred HK.out, ?_⟩⟩
    exact ⟨v, by simp [results, Try.f68, go_sem], v, rfl, HI.out, HBL.out.trans (belowK_b (w := w) (Nat.le_refl _) _ D _ _ (by omega) HK.out rfl rfl)⟩
  case stop =>
    rintro D c pre W hD _ hF hK
    exact hF.elim
end Go.Proofs.Ytjjkmonfihomnaa
