/- Plain geometry: the two chains of sorted places are the hull. No program here. | Plain geometry: two convex polygons that have a point in common touch: a corner of the one lies in the other, or two sides cross. No program here. -/
import Derived.Test.YtoekcefhphcjjaaBin00
namespace Go.Proofs.Ytoekcefhphcjjaa

theorem hp_lex {a b : Pt} (h : LexLt a b) : HP 0 (-1) (b.x - a.x) (b.y - a.y) := by
  unfold HP crs dt; unfold LexLt at h; omega
theorem half_trans' {p1 q1 p2 q2 p3 q3 : Int} (h1 : 0 < q1 ∨ q1 = 0 ∧ p1 < 0) (h2 : 0 < q2 ∨ q2 = 0 ∧ p2 < 0) (h3 : 0 < q3 ∨ q3 = 0 ∧ p3 < 0)
    (a : 0 ≤ p1 * q2 - q1 * p2) (b : 0 < p2 * q3 - q2 * p3) : 0 < p1 * q3 - q1 * p3 := by
  have id1 : q2 * (p1 * q3 - q1 * p3) = q3 * (p1 * q2 - q1 * p2) + q1 * (p2 * q3 - q2 * p3) := by grind
  rcases h2 with h2 | ⟨rfl, h2⟩
  · refine pos_of_mul h2 ?_
    rw [id1]
    rcases h1 with h1 | ⟨rfl, h1⟩
    · have x := Int.mul_pos h1 b
      have y := Int.mul_nonneg (show 0 ≤ q3 by omega) a
      omega
    · have := Int.mul_pos (show 0 < -p1 by omega) h2
      rw [Int.neg_mul] at this; omega
  · rcases h3 with h3 | ⟨rfl, h3⟩
    · have := Int.mul_pos (show 0 < -p2 by omega) h3
      rw [Int.neg_mul] at this; omega
    · simp at b
theorem hp_trans' {dx dy ux uy vx vy wx wy : Int} (hu : HP dx dy ux uy) (hv : HP dx dy vx vy) (hw : HP dx dy wx wy) (a : 0 ≤ crs ux uy vx vy) (b : 0 < crs vx vy wx wy) : 0 < crs ux uy wx wy := by
  have hd := sq_sum_pos hu.ne
  refine pos_of_mul hd ?_
  rw [crs_in]
  have a' := Int.mul_nonneg (Int.le_of_lt hd) a
  have b' := Int.mul_pos hd b
  rw [crs_in] at a' b'
  exact half_trans' hu hv hw a' b'
/-- collinear places in order -/
theorem lex_btw {a b y : Pt} (h : turnP a b y = 0) (h1 : LexLt a y) (h2 : LexLt y b) : Btw a b y := by
  have hy := hp_lex h1
  have hb := hp_lex (h1.trans h2)
  have e : crs (b.x - a.x) (b.y - a.y) (y.x - a.x) (y.y - a.y) = 0 := h
  rcases along_box e (hp_along hb hy e) with k | k
  · -- b lies in y's box
    unfold crs at e
    have h3 := h1.trans h2
    unfold LexLt at h1 h2 h3
    unfold Btw
    by_cases c : a.x < b.x
    · have c2 : y.x = b.x := by omega
      rw [c2] at e
      have e2 : (b.x - a.x) * (y.y - b.y) = 0 := by grind
      have : y.y - b.y = 0 := (Int.mul_eq_zero.1 e2).resolve_left (by omega)
      omega
    · omega
  · unfold Btw; omega

/-- how many of a chain's corners stay -/
def keepN (l : List Pt) (x : Pt) : Nat → Nat
  | 0 => 0
  | n + 1 => if 0 < n ∧ turnP (nth l (n - 1)) (nth l n) x ≤ 0 then keepN l x n else n + 1
theorem keepN_le (l : List Pt) (x : Pt) : ∀ n, keepN l x n ≤ n
  | 0 => Nat.le_refl _
  | n + 1 => by simp only [keepN]; split; exact Nat.le_succ_of_le (keepN_le l x n); exact Nat.le_refl _
theorem keepN_pos (l : List Pt) (x : Pt) : ∀ n, 1 ≤ n → 1 ≤ keepN l x n
  | 0, h => by omega
  | n + 1, _ => by
    simp only [keepN]
    split
    · exact keepN_pos l x n (by omega)
    · omega
theorem keepN_turn (l : List Pt) (x : Pt) : ∀ n, 2 ≤ keepN l x n → 0 < turnP (nth l (keepN l x n - 2)) (nth l (keepN l x n - 1)) x
  | 0, h => by simp [keepN] at h
  | n + 1, h => by
    simp only [keepN] at h ⊢
    split
    · rename_i c; rw [if_pos c] at h; exact keepN_turn l x n h
    · rename_i c
      rw [if_neg c] at h
      have : ¬ turnP (nth l (n - 1)) (nth l n) x ≤ 0 := fun h' => c ⟨by omega, h'⟩
      rw [show n + 1 - 2 = n - 1 by omega, Nat.add_sub_cancel]
      omega
theorem keepN_cut (l : List Pt) (x : Pt) : ∀ n, keepN l x n < n → turnP (nth l (keepN l x n - 1)) (nth l (keepN l x n)) x ≤ 0
  | 0, h => by omega
  | n + 1, h => by
    simp only [keepN] at h ⊢
    by_cases c : 0 < n ∧ turnP (nth l (n - 1)) (nth l n) x ≤ 0
    · rw [if_pos c] at h ⊢
      by_cases e : keepN l x n = n
      · rw [e]; exact c.2
      · exact keepN_cut l x n (by have := keepN_le l x n; omega)
    · rw [if_neg c] at h; omega
def pushP (l : List Pt) (x : Pt) : List Pt := l.take (keepN l x l.length) ++ [x]
def chainTo (s : List Pt) : Nat → List Pt
  | 0 => []
  | k + 1 => pushP (chainTo s k) (nth s k)
def chainP (s : List Pt) : List Pt := chainTo s s.length
theorem pushP_len (l : List Pt) (x : Pt) : (pushP l x).length = keepN l x l.length + 1 := by
  simp only [pushP, List.length_append, List.length_take, List.length_singleton]
  have := keepN_le l x l.length
  omega
theorem nth_push_lt {l : List Pt} {x : Pt} {i : Nat} (h : i < keepN l x l.length) : nth (pushP l x) i = nth l i := by
  have := keepN_le l x l.length
  unfold pushP nth
  rw [List.getD_eq_getElem?_getD, List.getD_eq_getElem?_getD, List.getElem?_append_left (by rw [List.length_take]; omega), List.getElem?_take_of_lt h]
theorem nth_push_eq {l : List Pt} {x : Pt} : nth (pushP l x) (keepN l x l.length) = x := by
  have := keepN_le l x l.length
  simp [pushP, nth, List.getD_eq_getElem?_getD, Nat.min_eq_left this]
theorem chainTo_len (s : List Pt) : ∀ k, (chainTo s k).length ≤ k
  | 0 => Nat.le_refl _
  | k + 1 => by
    simp only [chainTo]
    rw [pushP_len]
    have := keepN_le (chainTo s k) (nth s k) (chainTo s k).length
    have := chainTo_len s k
    omega

/-- places in order -/
def Inc (s : List Pt) : Prop := ∀ i j, i < j → j < s.length → LexLt (nth s i) (nth s j)
/-- a chain of the first k places -/
structure ChainI (s : List Pt) (k : Nat) (L : List Pt) : Prop where
  pos : 1 ≤ L.length
  first : nth L 0 = nth s 0
  last : nth L (L.length - 1) = nth s (k - 1)
  inc : ∀ i, i + 1 < L.length → LexLt (nth L i) (nth L (i + 1))
  mem : ∀ i, i < L.length → ∃ j, j < k ∧ nth s j = nth L i
  left : ∀ i, i + 1 < L.length → ∀ j, j < k → 0 ≤ turnP (nth L i) (nth L (i + 1)) (nth s j) ∧ (turnP (nth L i) (nth L (i + 1)) (nth s j) = 0 → Btw (nth L i) (nth L (i + 1)) (nth s j))
theorem ChainI.inc' {s L : List Pt} {k : Nat} (h : ChainI s k L) : ∀ d i, i + d + 1 < L.length → LexLt (nth L i) (nth L (i + d + 1)) := fun d => by
  induction d with
  | zero => exact fun i hi => h.inc i hi
  | succ d ih => exact fun i hi => (ih i (by omega)).trans (h.inc (i + d + 1) (by omega))
theorem ChainI.strict {s L : List Pt} {k : Nat} (h : ChainI s k L) {i : Nat} (hi : i + 2 < L.length) : 0 < turnP (nth L i) (nth L (i + 1)) (nth L (i + 2)) := by
  obtain ⟨j, hj, e⟩ := h.mem (i + 2) hi
  have a := h.left i (by omega) j hj
  rw [e] at a
  rcases Int.lt_or_le 0 (turnP (nth L i) (nth L (i + 1)) (nth L (i + 2))) with c | c
  · exact c
  · have b := a.2 (by omega)
    have c1 := h.inc i (by omega)
    have c2 := h.inc (i + 1) (by omega)
    rw [show i + 1 + 1 = i + 2 by omega] at c2
    have b2 := lex_btw (a := nth L i) (b := nth L (i + 2)) (y := nth L (i + 1)) (by rw [turn_exch]; omega) c1 c2
    exact absurd (b.anti b2) c2.ne
theorem chain_step {s L : List Pt} {k : Nat} (hs : Inc s) (h1 : 1 ≤ k) (hk : k < s.length) (h : ChainI s k L) : ChainI s (k + 1) (pushP L (nth s k)) := by
  have hx : ∀ j, j < k → LexLt (nth s j) (nth s k) := fun j hj => hs j k hj hk
  generalize hxk : nth s k = x at *
  have n1 := keepN_pos L x L.length h.pos
  have n2 := keepN_le L x L.length
  have n3 := keepN_turn L x L.length
  have n4 := keepN_cut L x L.length
  have pl := pushP_len L x
  have e1 : ∀ i, i < keepN L x L.length → nth (pushP L x) i = nth L i := fun i hi => nth_push_lt hi
  have e2 : nth (pushP L x) (keepN L x L.length) = x := nth_push_eq
  generalize pushP L x = M at *
  generalize keepN L x L.length = n at *
  have Lx : ∀ i, i < L.length → LexLt (nth L i) x := fun i hi => by
    obtain ⟨j, hj, e⟩ := h.mem i hi
    rw [← e]; exact hx j hj
  have low : ∀ d i, i + d + 2 = n → 0 < turnP (nth L i) (nth L (i + 1)) x := fun d => by
    induction d with
    | zero =>
      intro i hi
      have := n3 (by omega)
      rw [show n - 2 = i by omega, show n - 1 = i + 1 by omega] at this
      exact this
    | succ d ih =>
      intro i hi
      have a := ih (i + 1) (by omega)
      have b := h.strict (i := i) (by omega)
      have u := hp_lex (h.inc i (by omega))
      have v := hp_lex (h.inc (i + 1) (by omega))
      have w := hp_lex (Lx (i + 1) (by omega))
      have b' : 0 < crs ((nth L (i + 1)).x - (nth L i).x) ((nth L (i + 1)).y - (nth L i).y) ((nth L (i + 1 + 1)).x - (nth L (i + 1)).x) ((nth L (i + 1 + 1)).y - (nth L (i + 1)).y) := by
        have e : crs ((nth L (i + 1)).x - (nth L i).x) ((nth L (i + 1)).y - (nth L i).y) ((nth L (i + 1 + 1)).x - (nth L (i + 1)).x) ((nth L (i + 1 + 1)).y - (nth L (i + 1)).y) = turnP (nth L i) (nth L (i + 1)) (nth L (i + 2)) := by unfold crs turnP turnV; grind
        rw [e]; exact b
      have c := hp_trans u v w b' (Int.le_of_lt a)
      have e : crs ((nth L (i + 1)).x - (nth L i).x) ((nth L (i + 1)).y - (nth L i).y) (x.x - (nth L (i + 1)).x) (x.y - (nth L (i + 1)).y) = turnP (nth L i) (nth L (i + 1)) x := by unfold crs turnP turnV; grind
      rw [e] at c; exact c
  have top : ∀ j, j < k → 0 ≤ turnP (nth L (n - 1)) x (nth s j) ∧ (turnP (nth L (n - 1)) x (nth s j) = 0 → Btw (nth L (n - 1)) x (nth s j)) := fun j hj => by
    have hq := Lx (n - 1) (by omega)
    have hy := hx j hj
    rcases LexLt.tri (nth s j) (nth L (n - 1)) with c | c | c
    · -- behind q
      have hn : 2 ≤ n := by
        rcases Nat.lt_or_ge n 2 with h' | h'
        · have e : n - 1 = 0 := by omega
          rw [e, h.first] at c
          by_cases e0 : j = 0
          · subst e0; exact absurd c (fun h => h.irrefl)
          · exact absurd (c.trans (hs 0 j (by omega) (by omega))) (fun h => h.irrefl)
        · exact h'
      have t1 := n3 hn
      have t2 := (h.left (n - 2) (by omega) j hj).1
      have d1 := hp_lex (h.inc (n - 2) (by omega))
      rw [show n - 2 + 1 = n - 1 by omega] at t2 d1
      have d2 := hp_lex hq
      have d3 := hp_lex c
      generalize nth L (n - 2) = p at *
      generalize nth L (n - 1) = q at *
      generalize nth s j = y at *
      have a : crs (q.x - y.x) (q.y - y.y) (q.x - p.x) (q.y - p.y) = turnP p q y := by unfold crs turnP turnV; grind
      have b : crs (q.x - p.x) (q.y - p.y) (x.x - q.x) (x.y - q.y) = turnP p q x := by unfold crs turnP turnV; grind
      have r := hp_trans' d3 d1 d2 (by omega) (by omega)
      have e : crs (q.x - y.x) (q.y - y.y) (x.x - q.x) (x.y - q.y) = turnP q x y := by unfold crs turnP turnV; grind
      rw [e] at r
      exact ⟨Int.le_of_lt r, fun h => by omega⟩
    · rw [c, turn_aca]; exact ⟨Int.le_refl _, fun _ => Btw.l _ _⟩
    · have hn : n < L.length := by
        rcases Nat.lt_or_ge n L.length with h' | h'
        · exact h'
        · have e : n - 1 = L.length - 1 := by omega
          rw [e, h.last] at c
          by_cases e0 : j = k - 1
          · subst e0; exact absurd c (fun h => h.irrefl)
          · exact absurd (c.trans (hs j (k - 1) (by omega) (by omega))) (fun h => h.irrefl)
      have t1 := n4 hn
      have t2 := (h.left (n - 1) (by omega) j hj).1
      have d1 := hp_lex (h.inc (n - 1) (by omega))
      rw [show n - 1 + 1 = n by omega] at t2 d1
      have d2 := hp_lex hq
      have d3 := hp_lex c
      refine ⟨?_, fun e => lex_btw e c hy⟩
      generalize nth L (n - 1) = q at *
      generalize nth L n = r at *
      generalize nth s j = y at *
      by_cases z : turnP q r x = 0
      · have al := hp_along d1 d2 z
        have lk : dt (r.x - q.x) (r.y - q.y) (x.x - q.x) (x.y - q.y) * turnP q r y = ((r.x - q.x) * (r.x - q.x) + (r.y - q.y) * (r.y - q.y)) * turnP q x y := by
          unfold turnP turnV dt at *; grind
        have hn : 0 < (r.x - q.x) * (r.x - q.x) + (r.y - q.y) * (r.y - q.y) := sq_sum_pos fun e => by unfold HP crs dt at d1; omega
        exact nn_of_mul hn (by rw [← lk]; exact Int.mul_nonneg (Int.le_of_lt al) t2)
      · have a : 0 < turnP q x r := by rw [turn_exch]; omega
        have := hp_trans d2 d1 d3 a t2
        change 0 < turnP q x y at this
        exact Int.le_of_lt this
  refine ⟨by omega, ?_, ?_, fun i hi => ?_, fun i hi => ?_, fun i hi j hj => ?_⟩
  · rw [e1 0 (by omega)]; exact h.first
  · rw [show M.length - 1 = n by omega, e2, Nat.add_sub_cancel]
    exact hxk.symm
  · by_cases e : i + 1 = n
    · rw [e, e2, e1 i (by omega)]; exact Lx i (by omega)
    · rw [e1 i (by omega), e1 (i + 1) (by omega)]; exact h.inc i (by omega)
  · by_cases e : i = n
    · exact ⟨k, by omega, by rw [e, e2, hxk]⟩
    · rw [e1 i (by omega)]
      obtain ⟨j, hj, ej⟩ := h.mem i (by omega)
      exact ⟨j, by omega, ej⟩
  · by_cases e : i + 1 = n
    · rw [e, e2, e1 i (by omega)]
      by_cases ej : j = k
      · rw [ej, hxk, turn_acc]; exact ⟨Int.le_refl _, fun _ => Btw.r _ _⟩
      · rw [show i = n - 1 by omega]; exact top j (by omega)
    · rw [e1 i (by omega), e1 (i + 1) (by omega)]
      by_cases ej : j = k
      · have := low (n - i - 2) i (by omega)
        rw [ej, hxk]
        exact ⟨Int.le_of_lt this, fun h => by omega⟩
      · exact h.left i (by omega) j (by omega)

theorem chain_all {s : List Pt} (hs : Inc s) : ∀ k, 1 ≤ k → k ≤ s.length → ChainI s k (chainTo s k)
  | 0, h, _ => by omega
  | k + 1, _, hk => by
    by_cases e : k = 0
    · subst e
      have e1 : chainTo s 1 = [nth s 0] := by simp [chainTo, pushP, keepN]
      rw [e1]
      exact ⟨by simp, rfl, rfl, fun i hi => by simp at hi, fun i hi => ⟨0, by omega, by simp at hi; subst hi; rfl⟩, fun i hi => by simp at hi⟩
    · exact chain_step hs (by omega) (by omega) (chain_all hs k (by omega) (by omega))

/-- the opposite point -/
def ng (a : Pt) : Pt := ⟨-a.x, -a.y⟩
theorem nth_ng (l : List Pt) (i : Nat) : nth (l.map ng) i = ng (nth l i) := by
  by_cases h : i < l.length
  · simp [nth, List.getD_eq_getElem?_getD, h]
  · simp [nth, List.getD_eq_getElem?_getD, List.getElem?_eq_none (Nat.le_of_not_lt h), ng]
theorem turn_ng (a b c : Pt) : turnP (ng a) (ng b) (ng c) = turnP a b c := by unfold turnP turnV ng; grind
theorem btw_ng {a b c : Pt} : Btw (ng a) (ng b) (ng c) ↔ Btw a b c := by simp only [Btw, ng]; omega
theorem lex_ng {a b : Pt} : LexLt (ng a) (ng b) ↔ LexLt b a := by simp only [LexLt, ng]; omega
theorem ng_inj {a b : Pt} (h : ng a = ng b) : a = b := by
  unfold ng at h
  simp only [Pt.mk.injEq] at h
  exact Pt.ext' (by omega) (by omega)
theorem keepN_ng (l : List Pt) (x : Pt) : ∀ n, keepN (l.map ng) (ng x) n = keepN l x n
  | 0 => rfl
  | n + 1 => by simp only [keepN, nth_ng, turn_ng, keepN_ng l x n]
theorem push_ng (l : List Pt) (x : Pt) : pushP (l.map ng) (ng x) = (pushP l x).map ng := by
  simp [pushP, keepN_ng, List.map_take]
theorem chainTo_ng (s : List Pt) : ∀ k, chainTo (s.map ng) k = (chainTo s k).map ng
  | 0 => rfl
  | k + 1 => by simp only [chainTo, nth_ng, chainTo_ng s k, push_ng]
theorem nth_rev {s : List Pt} {i : Nat} (h : i < s.length) : nth s.reverse i = nth s (s.length - 1 - i) := by
  simp [nth, List.getD_eq_getElem?_getD, List.getElem?_reverse h]

/-- the hull of sorted places: the low chain, then the high one, without their ends -/
def twoP (s : List Pt) : List Pt := (chainP s).dropLast ++ (chainP s.reverse).dropLast
theorem nth_dropLast {l : List Pt} {i : Nat} (h : i + 1 < l.length) : nth l.dropLast i = nth l i := by
  simp [nth, List.getD_eq_getElem?_getD, show i < l.length - 1 by omega, List.getElem?_eq_getElem (show i < l.length by omega)]
theorem nth_app_l {l m : List Pt} {i : Nat} (h : i < l.length) : nth (l ++ m) i = nth l i := by
  simp [nth, List.getD_eq_getElem?_getD, List.getElem?_append, h]
theorem nth_app_r {l m : List Pt} {i : Nat} (h : l.length ≤ i) : nth (l ++ m) i = nth m (i - l.length) := by
  simp [nth, List.getD_eq_getElem?_getD, List.getElem?_append, show ¬ i < l.length by omega]
theorem two_hull {s : List Pt} (hs : Inc s) (h2 : 2 ≤ s.length) : HullOf s (twoP s) := by
  have low := chain_all hs s.length (by omega) (Nat.le_refl _)
  have hr : Inc (s.reverse.map ng) := fun i j hij hj => by
    simp only [List.length_map, List.length_reverse] at hj
    rw [nth_ng, nth_ng, lex_ng, nth_rev (by omega), nth_rev (by omega)]
    exact hs _ _ (by omega) (by omega)
  have high := chain_all hr s.length (by omega) (by simp)
  rw [chainTo_ng] at high
  have el : chainTo s s.length = chainP s := rfl
  have eh : chainTo s.reverse s.length = chainP s.reverse := by unfold chainP; rw [List.length_reverse]
  rw [el] at low
  rw [eh] at high
  unfold twoP
  generalize chainP s = A at *
  generalize chainP s.reverse = B at *
  have hne : nth s 0 ≠ nth s (s.length - 1) := (hs 0 (s.length - 1) (by omega) (by omega)).ne
  have bl : (B.map ng).length = B.length := by simp
  -- the chains' own facts
  have hb0 : nth B 0 = nth s (s.length - 1) := by
    have := high.first
    rw [nth_ng, nth_ng, nth_rev (by omega)] at this
    exact ng_inj this
  have hbl : nth B (B.length - 1) = nth s 0 := by
    have := high.last
    rw [bl, nth_ng, nth_ng, nth_rev (by omega)] at this
    have := ng_inj this
    rwa [show s.length - 1 - (s.length - 1) = 0 by omega] at this
  have hbi : ∀ i, i + 1 < B.length → LexLt (nth B (i + 1)) (nth B i) := fun i hi => by
    have := high.inc i (by rw [bl]; exact hi)
    rwa [nth_ng, nth_ng, lex_ng] at this
  have hbm : ∀ i, i < B.length → nth B i ∈ s := fun i hi => by
    obtain ⟨j, hj, e⟩ := high.mem i (by rw [bl]; exact hi)
    rw [nth_ng, nth_ng] at e
    rw [← ng_inj e, nth_rev hj]
    exact nth_mem' (by omega)
  have hbf : ∀ i, i + 1 < B.length → ∀ x, x ∈ s → 0 ≤ turnP (nth B i) (nth B (i + 1)) x ∧ (turnP (nth B i) (nth B (i + 1)) x = 0 → Btw (nth B i) (nth B (i + 1)) x) := fun i hi x hx => by
    obtain ⟨j, hj, rfl⟩ := mem_nth' hx
    have := high.left i (by rw [bl]; exact hi) (s.length - 1 - j) (by omega)
    rwa [nth_ng, nth_ng, nth_ng, turn_ng, btw_ng, nth_rev (by omega), show s.length - 1 - (s.length - 1 - j) = j by omega] at this
  have ham : ∀ i, i < A.length → nth A i ∈ s := fun i hi => by
    obtain ⟨j, hj, e⟩ := low.mem i hi
    rw [← e]; exact nth_mem' hj
  have haf : ∀ i, i + 1 < A.length → ∀ x, x ∈ s → 0 ≤ turnP (nth A i) (nth A (i + 1)) x ∧ (turnP (nth A i) (nth A (i + 1)) x = 0 → Btw (nth A i) (nth A (i + 1)) x) := fun i hi x hx => by
    obtain ⟨j, hj, rfl⟩ := mem_nth' hx
    exact low.left i hi j hj
  have a2 : 2 ≤ A.length := by
    rcases Nat.lt_or_ge A.length 2 with h | h
    · have := low.last
      rw [show A.length - 1 = 0 by have := low.pos; omega, low.first] at this
      exact absurd this hne
    · exact h
  have b2 : 2 ≤ B.length := by
    rcases Nat.lt_or_ge B.length 2 with h | h
    · have hp := high.pos
      rw [bl] at hp
      rw [show B.length - 1 = 0 by omega, hb0] at hbl
      exact absurd hbl.symm hne
    · exact h
  have nA : ∀ i, i + 1 < A.length → nth (A.dropLast ++ B.dropLast) i = nth A i := fun i hi => by
    rw [nth_app_l (by simp; omega), nth_dropLast hi]
  have nB : ∀ i, i + 1 < B.length → nth (A.dropLast ++ B.dropLast) (A.length - 1 + i) = nth B i := fun i hi => by
    rw [nth_app_r (by simp), List.length_dropLast, show A.length - 1 + i - (A.length - 1) = i by omega, nth_dropLast hi]
  have len : (A.dropLast ++ B.dropLast).length = A.length - 1 + (B.length - 1) := by simp
  have n0 : nth (A.dropLast ++ B.dropLast) 0 = nth s 0 := by rw [nA 0 (by omega), low.first]
  have s0 : ∀ x, x ∈ s → x = nth s 0 ∨ LexLt (nth s 0) x := fun x hx => by
    obtain ⟨j, hj, rfl⟩ := mem_nth' hx
    by_cases e : j = 0
    · left; rw [e]
    · right; exact hs 0 j (by omega) hj
  generalize A.dropLast ++ B.dropLast = H at *
  refine ⟨fun h => by rw [h] at h2; simp at h2, fun _ => by omega, fun _ => ?_, fun i hi => ?_, fun i h0 hi => ?_⟩
  · rw [n0]
    exact ⟨nth_mem' (by omega), fun x hx h => by rcases s0 x hx with e | e; exact (e ▸ h).irrefl; exact (h.trans e).irrefl⟩
  · by_cases c : i + 1 < A.length
    · have e1 : nth H ((i + 1) % H.length) = nth A (i + 1) := by
        rw [Nat.mod_eq_of_lt (by omega)]
        by_cases c2 : i + 2 < A.length
        · exact nA (i + 1) c2
        · have := nB 0 (by omega)
          rw [show i + 1 = A.length - 1 + 0 by omega, this, hb0, Nat.add_zero, low.last]
      rw [e1, nA i c]
      exact ⟨ham _ c, fun e => absurd e (Ne.symm (low.inc i c).ne), haf i c⟩
    · obtain ⟨k, rfl⟩ : ∃ k, i = A.length - 1 + k := ⟨i - (A.length - 1), by omega⟩
      have e1 : nth H ((A.length - 1 + k + 1) % H.length) = nth B (k + 1) := by
        by_cases c2 : k + 2 < B.length
        · rw [Nat.mod_eq_of_lt (by omega)]
          exact nB (k + 1) c2
        · rw [show A.length - 1 + k + 1 = H.length by omega, Nat.mod_self, n0, show k + 1 = B.length - 1 by omega, hbl]
      rw [e1, nB k (by omega)]
      exact ⟨hbm _ (by omega), fun e => absurd e (hbi k (by omega)).ne, hbf k (by omega)⟩
  · rw [n0]
    by_cases c : i + 1 < A.length
    · rw [nA i c]
      have := low.inc' (i - 1) 0 (by omega)
      rw [low.first, show 0 + (i - 1) + 1 = i by omega] at this
      exact Ne.symm this.ne
    · obtain ⟨k, rfl⟩ : ∃ k, i = A.length - 1 + k := ⟨i - (A.length - 1), by omega⟩
      rw [nB k (by omega)]
      have down : ∀ d k, k + d + 1 < B.length → LexLt (nth B (k + d + 1)) (nth B k) := fun d => by
        induction d with
        | zero => exact fun k hk => hbi k hk
        | succ d ih => exact fun k hk => (hbi (k + d + 1) (by omega)).trans (ih k (by omega))
      have := down (B.length - 1 - k - 1) k (by omega)
      rw [show k + (B.length - 1 - k - 1) + 1 = B.length - 1 by omega, hbl] at this
      exact Ne.symm this.ne
theorem one_hull (a : Pt) : HullOf [a] [a] := by
  refine ⟨fun h => by simp at h, fun _ => by simp, fun _ => ⟨by simp [nth], fun x hx h => ?_⟩, fun i hi => ?_, fun i h0 hi => ?_⟩
  · simp only [List.mem_singleton] at hx
    subst hx
    exact h.irrefl
  · simp only [List.length_singleton] at hi ⊢
    obtain rfl : i = 0 := by omega
    refine ⟨by simp [nth], fun _ x hx => by simpa [nth] using hx, fun x hx => ?_⟩
    simp only [List.mem_singleton] at hx
    subst hx
    simp only [nth, Nat.zero_add, Nat.mod_self]
    show 0 ≤ turnP x x x ∧ (_ → Btw x x x)
    rw [turn_aa]
    exact ⟨Int.le_refl _, fun _ => Btw.l _ _⟩
  · simp only [List.length_singleton] at hi; omega
theorem pair_hull {a b : Pt} (h : LexLt a b) : HullOf [a, b] [a, b] := by
  refine ⟨fun h => by simp at h, fun _ => by simp, fun _ => ⟨by simp [nth], fun x hx k => ?_⟩, fun i hi => ?_, fun i h0 hi => ?_⟩
  · simp only [List.mem_cons, List.not_mem_nil, or_false] at hx
    have k' : LexLt x a := k
    rcases hx with rfl | rfl
    · exact k'.irrefl
    · exact (k'.trans h).irrefl
  · simp only [List.length_cons, List.length_nil] at hi
    obtain rfl | rfl : i = 0 ∨ i = 1 := by omega
    · show Nx [a, b] a b
      refine ⟨by simp, fun e => absurd e.symm h.ne, fun x hx => ?_⟩
      simp only [List.mem_cons, List.not_mem_nil, or_false] at hx
      rcases hx with rfl | rfl
      · rw [turn_aca]; exact ⟨Int.le_refl _, fun _ => Btw.l _ _⟩
      · rw [turn_acc]; exact ⟨Int.le_refl _, fun _ => Btw.r _ _⟩
    · have e : (1 + 1) % [a, b].length = 0 := by simp
      rw [e]
      show Nx [a, b] b a
      refine ⟨by simp, fun e => absurd e h.ne, fun x hx => ?_⟩
      simp only [List.mem_cons, List.not_mem_nil, or_false] at hx
      rcases hx with rfl | rfl
      · rw [turn_acc]; exact ⟨Int.le_refl _, fun _ => Btw.r _ _⟩
      · rw [turn_aca]; exact ⟨Int.le_refl _, fun _ => Btw.l _ _⟩
  · simp only [List.length_cons, List.length_nil] at hi
    obtain rfl : i = 1 := by omega
    exact Ne.symm h.ne
/-- as the code of package hull has it -/
def goHull (s : List Pt) : List Pt := if s.length < 3 then s else twoP s
theorem goHull_of {s : List Pt} (hs : Inc s) : HullOf s (goHull s) := by
  unfold goHull
  split
  · match s with
    | [] => exact ⟨fun _ => rfl, fun h => absurd rfl h, fun h => absurd rfl h, fun i hi => by simp at hi, fun i _ hi => by simp at hi⟩
    | [a] => exact one_hull a
    | [a, b] => exact pair_hull (hs 0 1 (by omega) (by simp))
    | a :: b :: c :: r => rename_i h; simp at h; omega
  · exact two_hull hs (by omega)
end Go.Proofs.Ytoekcefhphcjjaa

namespace Go.Proofs.Ytoekcefhphcjjaa

/-- twice the area of a triangle whose third corner is (X / W, Y / W), times W -/
def hturn (a b : Pt) (X Y W : Int) : Int := (b.x - a.x) * (Y - a.y * W) - (b.y - a.y) * (X - a.x * W)
theorem hturn_one (a b p : Pt) : hturn a b p.x p.y 1 = turnP a b p := by unfold hturn turnP turnV; rw [Int.mul_one, Int.mul_one]
theorem hturn_scale (a b : Pt) (s X Y W : Int) : hturn a b (s * X) (s * Y) (s * W) = s * hturn a b X Y W := by unfold hturn; grind
theorem hturn_fst (a b : Pt) : turnP a b a = 0 := by unfold turnP turnV; grind
theorem hturn_snd (a b : Pt) : turnP a b b = 0 := by unfold turnP turnV; grind


/-- n corners that turn left -/
structure Conv (P : Nat → Pt) (n : Nat) : Prop where
  n3 : 3 ≤ n
  left : ∀ i, i < n → ∀ k, k < n → k ≠ i → k ≠ (i + 1) % n → 0 < turnP (P i) (P ((i + 1) % n)) (P k)
/-- the number of a side at a point -/
def hs (P : Nat → Pt) (n i : Nat) (X Y W : Int) : Int := hturn (P i) (P ((i + 1) % n)) X Y W
theorem Conv.corner {P : Nat → Pt} {n : Nat} (h : Conv P n) {i k : Nat} (hi : i < n) (hk : k < n) : 0 ≤ hs P n i (P k).x (P k).y 1 := by
  unfold hs
  rw [hturn_one]
  by_cases e1 : k = i
  · rw [e1, hturn_fst]; omega
  · by_cases e2 : k = (i + 1) % n
    · rw [e2, hturn_snd]; omega
    · have := h.left i hi k hk e1 e2; omega
/-- a point lies between two others -/
def SegH (a b : Pt) (X Y W : Int) : Prop := ∃ K s t : Int, 0 < K ∧ 0 ≤ s ∧ 0 ≤ t ∧ K * X = s * a.x + t * b.x ∧ K * Y = s * a.y + t * b.y ∧ K * W = s + t
end Go.Proofs.Ytoekcefhphcjjaa
