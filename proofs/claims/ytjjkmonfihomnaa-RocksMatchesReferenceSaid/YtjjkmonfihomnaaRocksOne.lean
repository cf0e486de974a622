/- Plain: what the first rock that is hit says. Slices of rocks. -/
import Derived.Test.YtjjkmonfihomnaaUsable
import Derived.Test.YtjjkmonfihomnaaHead33
namespace Go.Proofs.Ytjjkmonfihomnaa

theorem hitTo_some {c : List Pt} {ls : List (List Pt)} : ∀ {k i}, hitTo c ls k = some i → i < k ∧ touchB c (rk ls i) = true ∧ ∀ j, j < i → touchB c (rk ls j) = false
  | 0, i, h => by cases h
  | k + 1, i, h => by
    simp only [hitTo] at h
    cases hk : hitTo c ls k with
    | some q =>
      rw [hk] at h
      simp only [Option.isSome_some, if_true] at h
      cases h
      obtain ⟨h1, h2, h3⟩ := hitTo_some hk
      exact ⟨by omega, h2, h3⟩
    | none =>
      rw [hk] at h
      simp only [Option.isSome_none, Bool.false_eq_true, if_false] at h
      split at h
      · cases h
        refine ⟨by omega, by assumption, fun j hj => ?_⟩
        exact hitTo_none hk j hj
      · cases h
where
  hitTo_none {c : List Pt} {ls : List (List Pt)} : ∀ {k}, hitTo c ls k = none → ∀ j, j < k → touchB c (rk ls j) = false
  | 0, _, j, hj => by omega
  | k + 1, h, j, hj => by
    simp only [hitTo] at h
    cases hk : hitTo c ls k with
    | some q => rw [hk] at h; cases h
    | none =>
      rw [hk] at h
      simp only [Option.isSome_none, Bool.false_eq_true, if_false] at h
      split at h
      · cases h
      · rename_i ht
        by_cases e : j = k
        · rw [e]; simpa using ht
        · exact hitTo_none hk j (by omega)
theorem hitTo_none {c : List Pt} {ls : List (List Pt)} {k : Nat} (h : hitTo c ls k = none) : ∀ j, j < k → touchB c (rk ls j) = false := hitTo_some.hitTo_none h
theorem hitTo_clear {c : List Pt} {ls : List (List Pt)} : ∀ {k}, (∀ j, j < k → touchB c (rk ls j) = false) → hitTo c ls k = none
  | 0, _ => rfl
  | k + 1, h => by
    simp only [hitTo]
    rw [hitTo_clear (k := k) fun j hj => h j (by omega), h k (by omega)]; rfl
theorem hitTo_at {c : List Pt} {ls : List (List Pt)} {i : Nat} (h0 : ∀ j, j < i → touchB c (rk ls j) = false) (h1 : touchB c (rk ls i) = true) : hitTo c ls (i + 1) = some i := by
  simp only [hitTo]
  rw [hitTo_clear h0, h1]; rfl
theorem hitTo_congr {c : List Pt} {ls ms : List (List Pt)} : ∀ {k}, (∀ j, j < k → rk ls j = rk ms j) → hitTo c ls k = hitTo c ms k
  | 0, _ => rfl
  | k + 1, h => by simp only [hitTo]; rw [hitTo_congr (k := k) fun j hj => h j (by omega), h k (by omega)]
theorem rk_take {ls : List (List Pt)} {n j : Nat} (h : j < n) : rk (ls.take n) j = rk ls j := by
  unfold rk; simp [List.getD_eq_getElem?_getD, h]
theorem okRocks_take {c : List Pt} {ls : List (List Pt)} (h : okRocks c ls = true) (n : Nat) : okRocks c (ls.take n) = true := by
  rw [okRocks_eq, Bool.and_eq_true, polysB_iff] at *
  refine ⟨h.1, fun j hj => ?_⟩
  simp only [List.length_take] at hj
  rw [rk_take (by omega)]
  exact h.2 j (by omega)
theorem fir_ok {c : List Pt} {ls : List (List Pt)} (h : ls.length ≤ 100) (hk : okRocks c ls = true) : firI c ls = natO (hitTo c ls ls.length) ∧ firB c ls = (hitTo c ls ls.length).isSome ∧ firE c ls = 0 := by
  unfold firI firB firE; simp [h, hk]
theorem fir_clear {c : List Pt} {ls : List (List Pt)} {n : Nat} (h : ls.length ≤ 100) (hk : okRocks c ls = true) (hn : n ≤ ls.length) (hj : ∀ j, j < n → touchB c (rk ls j) = false) : firB c (ls.take n) = false ∧ firE c (ls.take n) = 0 := by
  have e : (ls.take n).length = n := by simp; omega
  obtain ⟨_, f2, f3⟩ := fir_ok (c := c) (ls := ls.take n) (by omega) (okRocks_take hk n)
  rw [e, hitTo_clear fun j hj' => by rw [rk_take hj']; exact hj j hj'] at f2
  exact ⟨f2, f3⟩
theorem fir_upto {c : List Pt} {ls : List (List Pt)} {i : Nat} (h : ls.length ≤ 100) (hk : okRocks c ls = true) (hh : hitTo c ls ls.length = some i) :
    firI c (ls.take (i + 1)) = i ∧ firB c (ls.take (i + 1)) = true ∧ firE c (ls.take (i + 1)) = 0 := by
  obtain ⟨h1, h2, h3⟩ := hitTo_some hh
  have e : (ls.take (i + 1)).length = i + 1 := by simp; omega
  obtain ⟨f1, f2, f3⟩ := fir_ok (c := c) (ls := ls.take (i + 1)) (by omega) (okRocks_take hk _)
  rw [e, hitTo_at (fun j hj => by rw [rk_take (by omega)]; exact h3 j hj) (by rw [rk_take (by omega)]; exact h2)] at f1 f2
  exact ⟨f1, f2, f3⟩
theorem firI_one {c p : List Pt} (hc : goValid c = true) (hp : goValid p = true) (ht : touchB c p = true) : firI c [p] = 0 ∧ firB c [p] = true ∧ firE c [p] = 0 := by
  obtain ⟨f1, f2⟩ := first_one hc hp
  refine ⟨?_, by rw [f1, ht], f2⟩
  have hok : okRocks c [p] = true := by
    rw [okRocks_eq, hc, Bool.true_and, polysB_iff]
    intro j hj
    obtain rfl : j = 0 := by simpa using hj
    exact hp
  rw [(fir_ok (by simp) hok).1, show [p].length = 0 + 1 from rfl, hitTo_at (fun j hj => by omega) ht]
  rfl
theorem hit_clear {c p : List Pt} (hc : goValid c = true) (hp : goValid p = true) (ht : touchB c p = false) : hitB c p = false ∧ hitE c p = 0 := by
  have hn : comX c p = none := by
    cases h : comX c p with
    | none => rfl
    | some x => have := touch_of_com hc hp (by rw [h]; rfl); rw [ht] at this; cases this
  constructor
  · unfold hitB; rw [hn]; simp
  · unfold hitE; rw [hc, hp, hn, ht]; rfl

/-- the first n of the rocks in a slice -/
theorem RocksAt.take {n0 : Nat} {W : World} {a : Option Addr} {ls : List (List Pt)} {cap : Nat} (h : RocksAt n0 W (.slice a ls.length (ls.length + cap)) ls) {n : Nat} (hn : n ≤ ls.length) :
    RocksAt n0 W (.slice a n (ls.length + cap)) (ls.take n) := by
  obtain ⟨hl, a', cap', he, hc⟩ := h
  have e : (ls.take n).length = n := by simp; omega
  simp only [Value.slice.injEq] at he
  obtain ⟨rfl, _, hcap⟩ := he
  refine ⟨by omega, a, ls.length - n + cap, by rw [e, show n + (ls.length - n + cap) = ls.length + cap by omega], ?_⟩
  rcases hc with rfl | ⟨b, o, rfl, hb, hcc⟩
  · left; simp
  · refine .inr ⟨b, o, rfl, hb, fun j hj => ?_⟩
    rw [e] at hj
    rw [rk_take hj]
    exact hcc j (by omega)
theorem RocksAt.one {n0 : Nat} {W : World} {b o : Nat} {ls : List (List Pt)} {cap cap1 : Nat} (h : RocksAt n0 W (.slice (some ⟨b, o, none⟩) ls.length (ls.length + cap)) ls) {i : Nat} (hi : i < ls.length) :
    RocksAt n0 W (.slice (some ⟨b, o + i, none⟩) 1 (1 + cap1)) [rk ls i] := by
  obtain ⟨hl, a', cap', he, hc⟩ := h
  simp only [Value.slice.injEq] at he
  obtain ⟨rfl, _, hcap⟩ := he
  refine ⟨by simp, some ⟨b, o + i, none⟩, cap1, rfl, ?_⟩
  rcases hc with rfl | ⟨b', o', e, hb, hcc⟩
  · simp at hi
  · cases e
    refine .inr ⟨b, o + i, rfl, hb, fun j hj => ?_⟩
    obtain rfl : j = 0 := by simpa using hj
    exact hcc i hi
end Go.Proofs.Ytjjkmonfihomnaa
