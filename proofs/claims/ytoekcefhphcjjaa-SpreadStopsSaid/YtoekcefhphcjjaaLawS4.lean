/- With fewer stops no radius is less, and those up to the first stop left out stay; without stops they are Start and the growths of the legs. No condition. -/
import Derived.OwnWalk
import Derived.Test.YtoekcefhphcjjaaBin31
import Derived.Test.YtoekcefhphcjjaaBin27
import Derived.Test.YtoekcefhphcjjaaBin32
import Derived.Test.YtoekcefhphcjjaaBin26
import Derived.Test.YtoekcefhphcjjaaBin30
import Derived.Test.YtoekcefhphcjjaaBin29
namespace Go.Proofs.Ytoekcefhphcjjaa.spreadStops
open Go.ChangeShapes Go.WideShapes Go.ChangeAt Go.RowKit
set_option linter.unusedVariables false
theorem own : ownKnob Try.prog.godebug = none := by kernel_rfl
theorem laidOut : laidOutB Try.prog = true := by kernel_rfl
attribute [local irreducible] wpQuiet

/-- how far the vehicle is off, as the law reckons it: at most as far as it can be -/
theorem ints_cells {n0 : Nat} {W : World} {v : Value} {l : List Int} (h : IntsAt n0 W v l) (h0 : 0 < l.length) : ∃ b o cap, v = .slice (some ⟨b, o, none⟩) l.length (l.length + cap) ∧ b < n0 ∧ ∀ j, j < l.length → W.cell? ⟨b, o + j, none⟩ = some (.int .i64 (l.getD j 0)) := by
  obtain ⟨_, a, cap, e, hc⟩ := h
  rcases hc with rfl | ⟨b, o, rfl, hb, hc⟩
  · simp at h0
  · exact ⟨b, o, cap, e, hb, hc⟩
theorem upto_getD (f : Nat → Int) {n j : Nat} (h : j < n) : (upto f n).getD j 0 = f j := by simp [upto, List.getD, h]
theorem ints_row {n0 : Nat} {W : World} {b o n cap : Nat} {f : Nat → Int} (h : IntsAt n0 W (.slice (some ⟨b, o, none⟩) n cap) (upto f n)) {j : Nat} (hj : j < n) : W.cell? ⟨b, o + j, none⟩ = some (.int .i64 (f j)) := by
  obtain ⟨b', o', c', e, _, hc⟩ := ints_cells h (by rw [upto_length]; omega)
  simp only [Value.slice.injEq, Option.some.injEq, Addr.mk.injEq, and_true] at e
  obtain ⟨⟨rfl, rfl⟩, _⟩ := e
  rw [hc j (by rw [upto_length]; exact hj), upto_getD f hj]

theorem getD_mem {l : List Int} {k : Nat} (hk : k < l.length) : l.getD k 0 ∈ l := by simp [List.getD, List.getElem?_eq_getElem hk]
theorem mem_getD {l : List Int} {x : Int} (h : x ∈ l) : ∃ k, k < l.length ∧ l.getD k 0 = x := by
  obtain ⟨k, hk, e⟩ := List.getElem_of_mem h
  exact ⟨k, hk, by simp [List.getD, List.getElem?_eq_getElem hk, e]⟩
theorem stops_at {m : Msn} {l : List Int} (h : stopsB m l = true) {k : Nat} (hk : k < l.length) : stopOk m l k := by
  simp only [stopsB, decide_eq_true_eq] at h; exact h k hk
theorem stops_inc {m : Msn} {l : List Int} (h : stopsB m l = true) : ∀ k j, j < k → k < l.length → l.getD j 0 < l.getD k 0
  | 0, _, hj, _ => by omega
  | k + 1, j, hj, hk => by
    have a := (stops_at h hk).1
    simp only [prevS, Nat.add_one_ne_zero, if_false, Nat.add_sub_cancel] at a
    by_cases e : j = k
    · rw [e]; exact a
    · have := stops_inc h k j (by omega) (by omega); omega
theorem stops_pos {m : Msn} {l : List Int} (h : stopsB m l = true) {k : Nat} (hk : k < l.length) : 0 < l.getD k 0 ∧ l.getD k 0 < m.ways.length ∧ (wy m.ways (l.getD k 0).toNat).fix ≠ 0 := by
  have a := stops_at h hk
  refine ⟨?_, a.2⟩
  rcases Nat.eq_zero_or_pos k with e | e
  · subst e; exact a.1
  · have b := stops_inc h k 0 e hk
    have c := (stops_at h (show 0 < l.length by omega)).1
    have c2 : prevS l 0 = 0 := rfl
    omega
theorem stops_of {m : Msn} {l : List Int} (h1 : l.Pairwise (· < ·)) (h2 : ∀ x ∈ l, 0 < x ∧ x < m.ways.length ∧ (wy m.ways x.toNat).fix ≠ 0) : stopsB m l = true := by
  simp only [stopsB, decide_eq_true_eq]
  intro k hk
  refine ⟨?_, (h2 _ (getD_mem hk)).2⟩
  unfold prevS
  split
  · exact (h2 _ (getD_mem hk)).1
  · have := List.pairwise_iff_getElem.1 h1 (k - 1) k (by omega) hk (by omega)
    simpa [List.getD, List.getElem?_eq_getElem hk, List.getElem?_eq_getElem (show k - 1 < l.length by omega)] using this

/-- the stops whose bit is not set, of the first k -/
def someL (f : Nat → Bool) (l : List Int) : Nat → List Int
  | 0 => []
  | k + 1 => if f k = true then someL f l k else someL f l k ++ [l.getD k 0]
theorem some_len (f : Nat → Bool) (l : List Int) : ∀ k, (someL f l k).length ≤ k
  | 0 => by simp [someL]
  | k + 1 => by
    have := some_len f l k
    simp only [someL]
    split
    · omega
    · simp; omega
theorem mem_some {f : Nat → Bool} {l : List Int} {x : Int} : ∀ k, x ∈ someL f l k ↔ ∃ j, j < k ∧ f j = false ∧ l.getD j 0 = x
  | 0 => by simp [someL]
  | k + 1 => by
    have ih := mem_some (f := f) (l := l) (x := x) k
    simp only [someL]
    cases h : f k
    · simp only [Bool.false_eq_true, if_false, List.mem_append, List.mem_singleton, ih]
      constructor
      · rintro (⟨j, h1, h2, h3⟩ | rfl)
        · exact ⟨j, by omega, h2, h3⟩
        · exact ⟨k, by omega, h, rfl⟩
      · rintro ⟨j, h1, h2, h3⟩
        by_cases e : j = k
        · exact .inr (by rw [← h3, e])
        · exact .inl ⟨j, by omega, h2, h3⟩
    · simp only [if_true, ih]
      constructor
      · rintro ⟨j, h1, h2, h3⟩; exact ⟨j, by omega, h2, h3⟩
      · rintro ⟨j, h1, h2, h3⟩
        refine ⟨j, ?_, h2, h3⟩
        have : j ≠ k := by intro e; rw [e, h] at h2; cases h2
        omega
theorem some_pair {m : Msn} {l : List Int} (h : stopsB m l = true) (f : Nat → Bool) : ∀ k, k ≤ l.length → (someL f l k).Pairwise (· < ·)
  | 0, _ => by simp [someL]
  | k + 1, hk => by
    have ih := some_pair h f k (by omega)
    simp only [someL]
    split
    · exact ih
    · rw [List.pairwise_append]
      refine ⟨ih, by simp, fun a ha b hb => ?_⟩
      obtain ⟨j, h1, _, rfl⟩ := (mem_some k).1 ha
      simp only [List.mem_singleton] at hb
      subst hb
      exact stops_inc h k j h1 (by omega)
theorem some_stops {m : Msn} {l : List Int} (h : stopsB m l = true) (f : Nat → Bool) : stopsB m (someL f l l.length) = true :=
  stops_of (some_pair h f _ (Nat.le_refl _)) fun x hx => by
    obtain ⟨j, h1, _, rfl⟩ := (mem_some _).1 hx
    exact stops_pos h h1
theorem ints_at {n0 : Nat} {W : World} {v : Value} {l : List Int} {n : Nat} (h : IntsAt n0 W v l) (hl : l.length = n) (h0 : 0 < n) : ∃ b o cap, v = .slice (some ⟨b, o, none⟩) n (n + cap) ∧ b < n0 ∧ ∀ j, j < n → W.cell? ⟨b, o + j, none⟩ = some (.int .i64 (l.getD j 0)) := by
  subst hl
  obtain ⟨_, a, cap, rfl, hc⟩ := h
  rcases hc with hn | ⟨b, o, rfl, hb, hc⟩
  · rw [hn] at h0; simp at h0
  · exact ⟨b, o, cap, rfl, hb, hc⟩

/-- the least stop of the first k that is left out, n0 without -/
def firstF (f : Nat → Bool) (l : List Int) (n0 : Int) : Nat → Int
  | 0 => n0
  | k + 1 => if f k = true then min (firstF f l n0 k) (l.getD k 0) else firstF f l n0 k
theorem firstF_le (f : Nat → Bool) (l : List Int) (n0 : Int) : ∀ k j, j < k → f j = true → firstF f l n0 k ≤ l.getD j 0
  | 0, _, h, _ => by omega
  | k + 1, j, h, hj => by
    simp only [firstF]
    by_cases e : j = k
    · subst e; rw [if_pos hj]; exact Int.min_le_right _ _
    · have := firstF_le f l n0 k j (by omega) hj
      split
      · exact Int.le_trans (Int.min_le_left _ _) this
      · exact this
theorem stops_law {m : Msn} {l : List Int} (f : Nat → Bool) (n0 : Int) (k : Nat) :
    (rdB m l k ≤ rdB m (someL f l l.length) k ∧ rdA m l k ≤ rdA m (someL f l l.length) k) ∧ ((k : Int) ≤ firstF f l n0 l.length → rdB m (someL f l l.length) k = rdB m l k) ∧ ((k : Int) < firstF f l n0 l.length → rdA m (someL f l l.length) k = rdA m l k) := by
  have hs : ∀ x, x ∈ someL f l l.length → x ∈ l := fun x hx => by
    obtain ⟨j, a, _, e⟩ := (mem_some _).1 hx
    rw [← e]; exact getD_mem a
  refine ⟨rd_sub m hs k, rd_same m hs (fun x hx hn => ?_) k⟩
  obtain ⟨j, a, e⟩ := mem_getD hx
  cases hf : f j
  · exact absurd ((mem_some _).2 ⟨j, a, hf, e⟩) hn
  · rw [← e]; exact firstF_le f l n0 _ j a hf
/-- a stop's bit is not set -/
def bf (u : Int) (k : Nat) : Bool := !(bits BinOp.and IntKind.u64 (u / 2 ^ k) 1 == 1)
theorem none_list (m : Msn) (n : Nat) : upto (rdB m []) n = upto (sumG m) n := congrArg (fun f => upto f n) (funext fun k => (rd_none m k).1)
theorem ints_nil (W : World) : IntsAt W.heap.size W (.slice none 0 0) [] := ⟨by simp, none, 0, rfl, .inl rfl⟩
set_option linter.unusedSimpArgs false in
set_option linter.unusedVariables false in
set_option maxRecDepth 8000 in
set_option maxHeartbeats 4000000 in
theorem walk (w : World) (m : Msn) (vw vh vr vl : Value) (l : List Int) (u : Int) (hm : MsnAt w.heap.size w m vw vh vr) (hl : IntsAt w.heap.size w vl l) (_ : (Lit.int .u64 u).wf = true) :
    Calls Try.prog 3 #[.agg (msnCells m vw vh vr), vl, .int .u64 u] w fun e w' => e = .returned (.bool true) ∧ Below w.heap.size w w' := by
  have f3 := fun w1 h1 h2 => radii_all m vw vh vr vl l w1 h1 h2
  have f4 := fun vs w1 h1 h2 => radii_all m vw vh vr vs (someL (bf u) l l.length) w1 h1 h2
  have f5 := fun w1 h1 h2 => radii_all m vw vh vr (.slice none 0 0) [] w1 h1 h2
  have fl := fun (i j : Int) w1 h => leg_all m vw vh vr i j w1 h
  have ff := fun w1 h => few_any m vw vh vr w1 h
  have hd := Lib.hid (fun w1 => head32_any w1)
  have M0 := Lib.hid hm
  have L0 := Lib.hid hl
  obtain ⟨⟨-, a1, cap1, rfl, -⟩, ⟨-, a2, cap2, rfl, -⟩, ⟨-, a3, cap3, rfl, -⟩⟩ := hm
  obtain ⟨-, al, capl, rfl, hlc⟩ := hl
  have hlH := Lib.hid hlc
  clear hlc
  unfold msnCells at *
  replace ff := Lib.hid ff
  have B0 := Lib.hid (Below.refl w.heap.size w)
  cases hok : radOkB m l
  · have e1 : rdBL m l = [] := by simp [rdBL, hok]
    have e2 : rdAL m l = [] := by simp [rdAL, hok]
    have e3 : rdE m l = 1 := by simp [rdE, hok]
    rw [e1, e2, e3] at f3
    replace f3 := Lib.hid f3
    clear e1 e2 e3 hok f4 f5 fl
    go_enter Try.func3, Try.ntmps3
    have q0 := Has.new w #[.slice a1 m.ways.length (m.ways.length + cap1), .slice a2 m.home.length (m.home.length + cap2), .int .i64 m.start, .slice a3 m.rocks.length (m.rocks.length + cap3), .int .i64 m.speed, .int .i64 m.part, .int .i64 m.flow, .int .i64 m.idle, .int .i64 m.drive, .int .i64 m.battery, .int .i64 m.deadline] 26
    go_wp2_with fail
    replace M0 := Lib.hid ((M0.out.below ((Below.refl w.heap.size w).alloc (Nat.le_refl _) (.cells #[.slice a1 m.ways.length (m.ways.length + cap1), .slice a2 m.home.length (m.home.length + cap2), .int .i64 m.start, .slice a3 m.rocks.length (m.rocks.length + cap3), .int .i64 m.speed, .int .i64 m.part, .int .i64 m.flow, .int .i64 m.idle, .int .i64 m.drive, .int .i64 m.battery, .int .i64 m.deadline] 26))).mono ((Below.refl w.heap.size w).alloc (Nat.le_refl _) (.cells #[.slice a1 m.ways.length (m.ways.length + cap1), .slice a2 m.home.length (m.home.length + cap2), .int .i64 m.start, .slice a3 m.rocks.length (m.rocks.length + cap3), .int .i64 m.speed, .int .i64 m.part, .int .i64 m.flow, .int .i64 m.idle, .int .i64 m.drive, .int .i64 m.battery, .int .i64 m.deadline] 26)).size)
    replace L0 := Lib.hid ((L0.out.below ((Below.refl w.heap.size w).alloc (Nat.le_refl _) (.cells #[.slice a1 m.ways.length (m.ways.length + cap1), .slice a2 m.home.length (m.home.length + cap2), .int .i64 m.start, .slice a3 m.rocks.length (m.rocks.length + cap3), .int .i64 m.speed, .int .i64 m.part, .int .i64 m.flow, .int .i64 m.idle, .int .i64 m.drive, .int .i64 m.battery, .int .i64 m.deadline] 26))).mono ((Below.refl w.heap.size w).alloc (Nat.le_refl _) (.cells #[.slice a1 m.ways.length (m.ways.length + cap1), .slice a2 m.home.length (m.home.length + cap2), .int .i64 m.start, .slice a3 m.rocks.length (m.rocks.length + cap3), .int .i64 m.speed, .int .i64 m.part, .int .i64 m.flow, .int .i64 m.idle, .int .i64 m.drive, .int .i64 m.battery, .int .i64 m.deadline] 26)).size)
    have MB := Lib.hid (show Has (w.alloc (.cells #[.slice a1 m.ways.length (m.ways.length + cap1), .slice a2 m.home.length (m.home.length + cap2), .int .i64 m.start, .slice a3 m.rocks.length (m.rocks.length + cap3), .int .i64 m.speed, .int .i64 m.part, .int .i64 m.flow, .int .i64 m.idle, .int .i64 m.drive, .int .i64 m.battery, .int .i64 m.deadline] 26)) (w.heap.size) #[.slice a1 m.ways.length (m.ways.length + cap1), .slice a2 m.home.length (m.home.length + cap2), .int .i64 m.start, .slice a3 m.rocks.length (m.rocks.length + cap3), .int .i64 m.speed, .int .i64 m.part, .int .i64 m.flow, .int .i64 m.idle, .int .i64 m.drive, .int .i64 m.battery, .int .i64 m.deadline] 26 from q0)
    have BX0 := Lib.hid (B0.out.trans ((((Below.refl w.heap.size w).alloc (Nat.le_refl _) (.cells #[.slice a1 m.ways.length (m.ways.length + cap1), .slice a2 m.home.length (m.home.length + cap2), .int .i64 m.start, .slice a3 m.rocks.length (m.rocks.length + cap3), .int .i64 m.speed, .int .i64 m.part, .int .i64 m.flow, .int .i64 m.idle, .int .i64 m.drive, .int .i64 m.battery, .int .i64 m.deadline] 26))).mono B0.out.size))
    generalize hXX0 : (w.alloc (.cells #[.slice a1 m.ways.length (m.ways.length + cap1), .slice a2 m.home.length (m.home.length + cap2), .int .i64 m.start, .slice a3 m.rocks.length (m.rocks.length + cap3), .int .i64 m.speed, .int .i64 m.part, .int .i64 m.flow, .int .i64 m.idle, .int .i64 m.drive, .int .i64 m.battery, .int .i64 m.deadline] 26)) = X0 at *
    clear hXX0
    obtain ⟨c0, c1, c2, c3, c4, c5, c6, c7, c8, c9, c10⟩ := msn_cells (m := m) MB.out
    clear q0
    have hz0 := BX0.out.size
    refine (hd.out _).mono ?_
    rintro e w1 ⟨rfl, b1⟩
    have B1 := Lib.hid (BX0.out.trans (b1.mono BX0.out.size))
    replace M0 := Lib.hid ((M0.out.below b1).mono b1.size)
    replace L0 := Lib.hid ((L0.out.below b1).mono b1.size)
    replace MB := Lib.hid (MB.out.below b1 MB.out.lt)
    clear b1
    clear c0 c1 c2 c3 c4 c5 c6 c7 c8 c9 c10
    obtain ⟨c0, c1, c2, c3, c4, c5, c6, c7, c8, c9, c10⟩ := msn_cells (m := m) MB.out
    go_wp2_with fail
    refine (ff.out _ M0.out).mono ?_
    rintro e w2 ⟨rfl, b2⟩
    have B2 := Lib.hid (B1.out.trans (b2.mono B1.out.size))
    replace M0 := Lib.hid ((M0.out.below b2).mono b2.size)
    replace L0 := Lib.hid ((L0.out.below b2).mono b2.size)
    replace MB := Lib.hid (MB.out.below b2 MB.out.lt)
    clear b2
    clear c0 c1 c2 c3 c4 c5 c6 c7 c8 c9 c10
    obtain ⟨c0, c1, c2, c3, c4, c5, c6, c7, c8, c9, c10⟩ := msn_cells (m := m) MB.out
    cases hfew : fewB m
    · go_wp2
      go_ret
      exact ⟨rfl, B2.out⟩
    clear hfew
    by_cases hln : (60 : Int) < l.length
    · have dl : decide ((l.length : Int) > 60) = true := by rw [decide_eq_true_eq]; omega
      go_wp2
      go_ret
      exact ⟨rfl, B2.out⟩
    have dl : decide ((l.length : Int) > 60) = false := by rw [decide_eq_false_iff_not]; omega
    go_wp2_with fail
    refine (f3.out _ M0.out L0.out).mono ?_
    rintro e w3 ⟨v3, u3, rfl, p3, q3, b3⟩
    have B3 := Lib.hid (B2.out.trans (b3.mono B2.out.size))
    replace M0 := Lib.hid ((M0.out.below b3).mono b3.size)
    replace L0 := Lib.hid ((L0.out.below b3).mono b3.size)
    replace MB := Lib.hid (MB.out.below b3 MB.out.lt)
    have BE := Lib.hid p3
    have AF := Lib.hid q3
    obtain ⟨-, ga3, gc3, hv3, -⟩ := p3
    obtain ⟨-, ga3', gc3', hv3', -⟩ := q3
    subst hv3
    subst hv3'
    clear b3
    clear c0 c1 c2 c3 c4 c5 c6 c7 c8 c9 c10
    obtain ⟨c0, c1, c2, c3, c4, c5, c6, c7, c8, c9, c10⟩ := msn_cells (m := m) MB.out
    go_wp2
    go_ret
    exact ⟨rfl, B3.out⟩
  have hvs : validB m = true ∧ stopsB m l = true := by simpa [radOkB] using hok
  have hV := hvs.1
  have VV := Lib.hid ((validB_iff m).1 hV)
  have n2 := VV.out.n2
  have n41 := VV.out.n41
  have h0 : 0 < m.ways.length := by omega
  have o2 : radOkB m (someL (bf u) l l.length) = true := by
    unfold radOkB
    rw [hV, some_stops hvs.2]; rfl
  have o3 : radOkB m [] = true := by simp [radOkB, hV, stopsB]
  have e1 : rdBL m l = upto (rdB m l) m.ways.length := by simp [rdBL, hok]
  have e2 : rdAL m l = upto (rdA m l) m.ways.length := by simp [rdAL, hok]
  have e3 : rdE m l = 0 := by simp [rdE, hok]
  rw [e1, e2, e3] at f3
  have e4 : rdBL m (someL (bf u) l l.length) = upto (rdB m (someL (bf u) l l.length)) m.ways.length := by simp [rdBL, o2]
  have e5 : rdAL m (someL (bf u) l l.length) = upto (rdA m (someL (bf u) l l.length)) m.ways.length := by simp [rdAL, o2]
  have e6 : rdE m (someL (bf u) l l.length) = 0 := by simp [rdE, o2]
  rw [e4, e5, e6] at f4
  have e7 : rdBL m [] = upto (sumG m) m.ways.length := by rw [← none_list]; simp [rdBL, o3]
  have e8 : rdAL m [] = upto (rdA m []) m.ways.length := by simp [rdAL, o3]
  have e9 : rdE m [] = 0 := by simp [rdE, o3]
  rw [e7, e8, e9] at f5
  have HL := Lib.hid (fun k => stops_law (m := m) (l := l) (bf u) (m.ways.length : Int) k)
  have HG := Lib.hid (fun k (hk : k + 1 < m.ways.length) => And.intro (leg_nat (m := m) (a := k) (b := k + 1) hV (by omega) hk) (And.intro (show sumG m (k + 1) = sumG m k + gLeg m k (k + 1) from rfl) (sumG_bd VV.out hk)))
  have HG0 := Lib.hid (fun k (hk : k < m.ways.length) => And.intro ((rd_none m k).1 ▸ (rd_le VV.out [] hk).1 : 0 ≤ sumG m k) (sumG_bd VV.out hk))
  replace f3 := Lib.hid f3
  replace f4 := Lib.hid f4
  replace f5 := Lib.hid f5
  replace fl := Lib.hid fl
  obtain ⟨i0, hi, hz0', hz1', hz2'⟩ := info_parts intInfo
  clear e1 e2 e3 e4 e5 e6 e7 e8 e9 o2 o3 hvs hok hV
  go_enter Try.func3, Try.ntmps3
  have q0 := Has.new w #[.slice a1 m.ways.length (m.ways.length + cap1), .slice a2 m.home.length (m.home.length + cap2), .int .i64 m.start, .slice a3 m.rocks.length (m.rocks.length + cap3), .int .i64 m.speed, .int .i64 m.part, .int .i64 m.flow, .int .i64 m.idle, .int .i64 m.drive, .int .i64 m.battery, .int .i64 m.deadline] 26
  go_wp2_with fail
  replace M0 := Lib.hid ((M0.out.below ((Below.refl w.heap.size w).alloc (Nat.le_refl _) (.cells #[.slice a1 m.ways.length (m.ways.length + cap1), .slice a2 m.home.length (m.home.length + cap2), .int .i64 m.start, .slice a3 m.rocks.length (m.rocks.length + cap3), .int .i64 m.speed, .int .i64 m.part, .int .i64 m.flow, .int .i64 m.idle, .int .i64 m.drive, .int .i64 m.battery, .int .i64 m.deadline] 26))).mono ((Below.refl w.heap.size w).alloc (Nat.le_refl _) (.cells #[.slice a1 m.ways.length (m.ways.length + cap1), .slice a2 m.home.length (m.home.length + cap2), .int .i64 m.start, .slice a3 m.rocks.length (m.rocks.length + cap3), .int .i64 m.speed, .int .i64 m.part, .int .i64 m.flow, .int .i64 m.idle, .int .i64 m.drive, .int .i64 m.battery, .int .i64 m.deadline] 26)).size)
  replace L0 := Lib.hid ((L0.out.below ((Below.refl w.heap.size w).alloc (Nat.le_refl _) (.cells #[.slice a1 m.ways.length (m.ways.length + cap1), .slice a2 m.home.length (m.home.length + cap2), .int .i64 m.start, .slice a3 m.rocks.length (m.rocks.length + cap3), .int .i64 m.speed, .int .i64 m.part, .int .i64 m.flow, .int .i64 m.idle, .int .i64 m.drive, .int .i64 m.battery, .int .i64 m.deadline] 26))).mono ((Below.refl w.heap.size w).alloc (Nat.le_refl _) (.cells #[.slice a1 m.ways.length (m.ways.length + cap1), .slice a2 m.home.length (m.home.length + cap2), .int .i64 m.start, .slice a3 m.rocks.length (m.rocks.length + cap3), .int .i64 m.speed, .int .i64 m.part, .int .i64 m.flow, .int .i64 m.idle, .int .i64 m.drive, .int .i64 m.battery, .int .i64 m.deadline] 26)).size)
  have MB := Lib.hid (show Has (w.alloc (.cells #[.slice a1 m.ways.length (m.ways.length + cap1), .slice a2 m.home.length (m.home.length + cap2), .int .i64 m.start, .slice a3 m.rocks.length (m.rocks.length + cap3), .int .i64 m.speed, .int .i64 m.part, .int .i64 m.flow, .int .i64 m.idle, .int .i64 m.drive, .int .i64 m.battery, .int .i64 m.deadline] 26)) (w.heap.size) #[.slice a1 m.ways.length (m.ways.length + cap1), .slice a2 m.home.length (m.home.length + cap2), .int .i64 m.start, .slice a3 m.rocks.length (m.rocks.length + cap3), .int .i64 m.speed, .int .i64 m.part, .int .i64 m.flow, .int .i64 m.idle, .int .i64 m.drive, .int .i64 m.battery, .int .i64 m.deadline] 26 from q0)
  have BX0 := Lib.hid (B0.out.trans ((((Below.refl w.heap.size w).alloc (Nat.le_refl _) (.cells #[.slice a1 m.ways.length (m.ways.length + cap1), .slice a2 m.home.length (m.home.length + cap2), .int .i64 m.start, .slice a3 m.rocks.length (m.rocks.length + cap3), .int .i64 m.speed, .int .i64 m.part, .int .i64 m.flow, .int .i64 m.idle, .int .i64 m.drive, .int .i64 m.battery, .int .i64 m.deadline] 26))).mono B0.out.size))
  generalize hXX0 : (w.alloc (.cells #[.slice a1 m.ways.length (m.ways.length + cap1), .slice a2 m.home.length (m.home.length + cap2), .int .i64 m.start, .slice a3 m.rocks.length (m.rocks.length + cap3), .int .i64 m.speed, .int .i64 m.part, .int .i64 m.flow, .int .i64 m.idle, .int .i64 m.drive, .int .i64 m.battery, .int .i64 m.deadline] 26)) = X0 at *
  clear hXX0
  obtain ⟨c0, c1, c2, c3, c4, c5, c6, c7, c8, c9, c10⟩ := msn_cells (m := m) MB.out
  clear q0
  have hz0 := BX0.out.size
  refine (hd.out _).mono ?_
  rintro e w1 ⟨rfl, b1⟩
  have B1 := Lib.hid (BX0.out.trans (b1.mono BX0.out.size))
  replace M0 := Lib.hid ((M0.out.below b1).mono b1.size)
  replace L0 := Lib.hid ((L0.out.below b1).mono b1.size)
  replace MB := Lib.hid (MB.out.below b1 MB.out.lt)
  clear b1
  clear c0 c1 c2 c3 c4 c5 c6 c7 c8 c9 c10
  obtain ⟨c0, c1, c2, c3, c4, c5, c6, c7, c8, c9, c10⟩ := msn_cells (m := m) MB.out
  go_wp2_with fail
  refine (ff.out _ M0.out).mono ?_
  rintro e w2 ⟨rfl, b2⟩
  have B2 := Lib.hid (B1.out.trans (b2.mono B1.out.size))
  replace M0 := Lib.hid ((M0.out.below b2).mono b2.size)
  replace L0 := Lib.hid ((L0.out.below b2).mono b2.size)
  replace MB := Lib.hid (MB.out.below b2 MB.out.lt)
  clear b2
  clear c0 c1 c2 c3 c4 c5 c6 c7 c8 c9 c10
  obtain ⟨c0, c1, c2, c3, c4, c5, c6, c7, c8, c9, c10⟩ := msn_cells (m := m) MB.out
  cases hfew : fewB m
  · go_wp2
    go_ret
    exact ⟨rfl, B2.out⟩
  clear hfew
  by_cases hln : (60 : Int) < l.length
  · have dl : decide ((l.length : Int) > 60) = true := by rw [decide_eq_true_eq]; omega
    go_wp2
    go_ret
    exact ⟨rfl, B2.out⟩
  have dl : decide ((l.length : Int) > 60) = false := by rw [decide_eq_false_iff_not]; omega
  go_wp2_with fail
  refine (f3.out _ M0.out L0.out).mono ?_
  rintro e w3 ⟨v3, u3, rfl, p3, q3, b3⟩
  have B3 := Lib.hid (B2.out.trans (b3.mono B2.out.size))
  replace M0 := Lib.hid ((M0.out.below b3).mono b3.size)
  replace L0 := Lib.hid ((L0.out.below b3).mono b3.size)
  replace MB := Lib.hid (MB.out.below b3 MB.out.lt)
  obtain ⟨bx, ox, gx, rfl, -, -⟩ := ints_at p3 (n := m.ways.length) (upto_length _ _) h0
  obtain ⟨bx', ox', gx', rfl, -, -⟩ := ints_at q3 (n := m.ways.length) (upto_length _ _) h0
  have BE := Lib.hid p3
  have AF := Lib.hid q3
  clear p3 q3
  clear b3
  clear c0 c1 c2 c3 c4 c5 c6 c7 c8 c9 c10
  obtain ⟨c0, c1, c2, c3, c4, c5, c6, c7, c8, c9, c10⟩ := msn_cells (m := m) MB.out
  clear c0 c1 c2 c3 c4 c5 c6 c7 c8 c9 c10
  obtain ⟨c0, c1, c2, c3, c4, c5, c6, c7, c8, c9, c10⟩ := msn_cells (m := m) MB.out
  go_wp2
  clear c0 c1 c2 c3 c4 c5 c6 c7 c8 c9 c10
  obtain ⟨wA, hX⟩ : ∃ x, x = w3 := ⟨_, rfl⟩
  subst hX
  go_loopw [11, 12, 53] (fun v x i wr => ∃ q : Nat, q ≤ l.length ∧ i = .int .i64 (q : Int) ∧ x = .int .i64 (firstF (bf u) l m.ways.length q) ∧ wr.ownsRow wA.heap.size 3 1 v (someL (bf u) l q).length ((someL (bf u) l q).map (Value.int .i64)) ∧ Below wA.heap.size wA wr) (fun _ _ i _ => l.length - (intOf i).toNat)
  case atStart => exact ⟨0, by omega, rfl, rfl, World.ownsRow_nil _ _ _ _, Below.refl _ _⟩
  case round =>
    obtain ⟨q, hq, rfl, rfl, hrow, hB⟩ := hrel
    have hzB := hB.size
    by_cases hlq : q < l.length
    · obtain ⟨bl, ol, rfl, hbl, hcl⟩ : ∃ b1 o1, al = some ⟨b1, o1, none⟩ ∧ b1 < w.heap.size ∧ ∀ j, j < l.length → w.cell? ⟨b1, o1 + j, none⟩ = some (.int .i64 (l.getD j 0)) := by
        rcases hlH.out with h | h
        · rw [h] at hlq; simp at hlq
        · exact h
      have f1 := ((B3.out.trans (hB.mono B3.out.size)).cell (p := ⟨bl, ol + q, none⟩) hbl).trans (hcl q hlq)
      have dq : decide ((q : Int) < (l.length : Int)) = true := by simp; omega
      have hs : Hid (someL (bf u) l (q + 1) = if bf u q = true then someL (bf u) l q else someL (bf u) l q ++ [l.getD q 0]) := rfl
      have hF : Hid (firstF (bf u) l m.ways.length (q + 1) = if bf u q = true then min (firstF (bf u) l m.ways.length q) (l.getD q 0) else firstF (bf u) l m.ways.length q) := rfl
      have hsl := some_len (bf u) l q
      have hp64 : (q : Int) ≤ 64 := by omega
      have tq : ((q : Nat) : Int).tmod 64 = q := Int.tmod_eq_of_lt (by omega) (by omega)
      have wq' : IntKind.i64.wrap (q : Int) = q := IntWalk.i64_in _ (by omega)
      have hq0 : (0 : Int) ≤ q := by omega
      have hqi : (q : Int) < l.length := by omega
      generalize l.getD q 0 = s at *
      generalize firstF (bf u) l m.ways.length q = F0 at *
      have hZZ := Lib.hid hB
      clear hcl hB
      cases hb : bf u q
      · rw [hb] at hs hF
        have hb' : (bits BinOp.and IntKind.u64 (u / 2 ^ q) 1 == 1) = true := by simpa [bf] using hb
        have hrow' := hrow
        clear hb hrow
        go_wp2_with (at_builtin; refine wpList_append_own _ rfl _ _ 27 rfl wA.heap.size 3 i0 (.int .i64 0) 1 8 Try.underlying27 hi hz0' hz1' hz2' rfl (by decide) _ _ _ rfl (hrow'.alloc _) ⟨wr.heap.size, 0, none⟩ 1 1 [.int .i64 s] rfl rfl (cell_one_new _ _ _) (by simp [Value.oneCell']) (by unfold maxLen; omega) (by omega) (by simp; omega) ?_; intro v' w1 hown' hgrow _)
        go_roundw
        case rel =>
          have hb0 : Below wA.heap.size wr w1 := ((Below.refl wA.heap.size wr).alloc (by omega) _).grown hgrow (by simp; omega) (fun j ej => (hrow'.lt j ej).1)
          refine ⟨q + 1, by omega, by go_num, by rw [hF.out]; rfl, ?_, hZZ.out.trans (hb0.mono (Nat.le_refl _))⟩
          rw [hs.out]
          simpa using hown'
        case measure => simp [intOf]; omega
      · rw [hb] at hs hF
        have hb' : (bits BinOp.and IntKind.u64 (u / 2 ^ q) 1 == 1) = false := by simpa [bf] using hb
        have hrow' := Lib.hid hrow
        clear hb hrow
        go_wp2
        go_roundw
        case rel => exact ⟨q + 1, by omega, by go_num, by rw [hF.out]; rfl, by rw [hs.out]; exact hrow'.out, hZZ.out⟩
        case measure => simp [intOf]; omega
    obtain rfl : q = l.length := by omega
    have S0 := Lib.hid (IntsAt.own hrow (by have := some_len (bf u) l l.length; omega))
    have hdq : decide ((l.length : Int) < (l.length : Int)) = false := by simp
    clear hrow
    replace M0 := Lib.hid ((M0.out.below hB).mono hzB)
    replace L0 := Lib.hid ((L0.out.below hB).mono hzB)
    replace MB := Lib.hid (MB.out.below hB MB.out.lt)
    replace BE := Lib.hid ((BE.out.below hB).mono hzB)
    replace AF := Lib.hid ((AF.out.below hB).mono hzB)
    have BwB := Lib.hid (B3.out.trans (hB.mono B3.out.size))
    clear hB hzB
    obtain ⟨wB, hX⟩ : ∃ x, x = wr := ⟨_, rfl⟩
    subst hX
    obtain ⟨av, cv, hv⟩ : ∃ av cv, _ = Value.slice av (someL (bf u) l l.length).length ((someL (bf u) l l.length).length + cv) := (S0.out.2.elim fun a h => h.elim fun c h => ⟨a, c, h.1⟩)
    subst hv
    generalize firstF (bf u) l (m.ways.length : Int) l.length = F at *
    generalize someL (bf u) l l.length = sm at *
    obtain ⟨c0, c1, c2, c3, c4, c5, c6, c7, c8, c9, c10⟩ := msn_cells (m := m) MB.out
    go_wp2_with fail
    refine (f4.out _ _ M0.out S0.out).mono ?_
    rintro e w4 ⟨v4, u4, rfl, p4, q4, b4⟩
    have B4 := Lib.hid (BwB.out.trans (b4.mono BwB.out.size))
    replace M0 := Lib.hid ((M0.out.below b4).mono b4.size)
    replace L0 := Lib.hid ((L0.out.below b4).mono b4.size)
    replace MB := Lib.hid (MB.out.below b4 MB.out.lt)
    replace BE := Lib.hid ((BE.out.below b4).mono b4.size)
    replace AF := Lib.hid ((AF.out.below b4).mono b4.size)
    replace S0 := Lib.hid ((S0.out.below b4).mono b4.size)
    obtain ⟨bY, oy, gy, rfl, -, -⟩ := ints_at p4 (n := m.ways.length) (upto_length _ _) h0
    obtain ⟨bY', oy', gy', rfl, -, -⟩ := ints_at q4 (n := m.ways.length) (upto_length _ _) h0
    have XS := Lib.hid p4
    have YS := Lib.hid q4
    clear p4 q4
    clear b4
    clear c0 c1 c2 c3 c4 c5 c6 c7 c8 c9 c10
    go_wp2
    obtain ⟨wC, hX⟩ : ∃ x, x = w4 := ⟨_, rfl⟩
    subst hX
    go_loopw [7, 97] (fun s i wr => ∃ j : Nat, j ≤ m.ways.length ∧ i = .int .i64 (j : Int) ∧ s = .bool true ∧ Below wC.heap.size wC wr) (fun _ i _ => m.ways.length - (intOf i).toNat)
    case atStart => exact ⟨0, by omega, rfl, rfl, Below.refl _ _⟩
    case round =>
      obtain ⟨j, hj, rfl, rfl, hB⟩ := hrel
      have hzB := hB.size
      by_cases hlt : j < m.ways.length
      · have t1 := ints_row BE.out hlt
        have t2 := ints_row AF.out hlt
        have t3 := ints_row XS.out hlt
        have t4 := ints_row YS.out hlt
        have l1 := Low.fact ((hB.cell (p := ⟨bx, ox + j, none⟩) (World.block_lt_of_cell? _ _ t1)).trans t1)
        have l2 := Low.fact ((hB.cell (p := ⟨bx', ox' + j, none⟩) (World.block_lt_of_cell? _ _ t2)).trans t2)
        have l3 := Low.fact ((hB.cell (p := ⟨bY, oy + j, none⟩) (World.block_lt_of_cell? _ _ t3)).trans t3)
        have l4 := Low.fact ((hB.cell (p := ⟨bY', oy' + j, none⟩) (World.block_lt_of_cell? _ _ t4)).trans t4)
        clear t1 t2 t3 t4
        obtain ⟨⟨g1, g2⟩, g3, g4⟩ := HL.out j
        have dj : decide ((j : Int) < (m.ways.length : Int)) = true := by simp; omega
        have jl : (j : Int) < m.ways.length := by omega
        have j0 : (0 : Int) ≤ j := by omega
        have hBB := Lib.hid hB
        clear hB
        by_cases hF : (j : Int) < F
        · have dF : decide ((j : Int) > F) = false := by rw [decide_eq_false_iff_not]; omega
          have dG : decide ((j : Int) ≥ F) = false := by rw [decide_eq_false_iff_not]; omega
          rw [g3 (by omega)] at l3
          rw [g4 hF] at l4
          clear g1 g2 g3 g4
          generalize rdB m l j = s1 at *
          generalize rdA m l j = s2 at *
          have d1 : decide (s1 ≥ s1) = true := by simp
          have d2 : decide (s2 ≥ s2) = true := by simp
          go_wp2
          (refine wp_region_low (by kernel_rfl) (by kernel_rfl) ?_; (iterate 56 (apply quiet_want; (case hw => rfl); (case hval => (intro w1 hw1; have hcx := Low.cells hw1; simp only [Oper.quietAt]; go_simp; first | done | (first | fail) | rfl | exact ⟨rfl, rfl⟩)); simp only [Act.put, List.setIfInBounds_toArray, List.set_cons_zero, List.set_cons_succ])); refine wpQuiet_nil ?_; intro w2 hw2)
          have hBf := Lib.hid (hBB.out.trans (hw2.out.mono hzB))
          clear hw2 l1 l2 l3 l4
          go_wp2
          go_roundw
          case rel => exact ⟨j + 1, by omega, by go_num, rfl, hBf.out⟩
          case measure => simp [intOf]; omega
        · have dG : decide ((j : Int) ≥ F) = true := by rw [decide_eq_true_eq]; omega
          by_cases hE : (j : Int) ≤ F
          · have dF : decide ((j : Int) > F) = false := by rw [decide_eq_false_iff_not]; omega
            rw [g3 hE] at l3
            clear g1 g3 g4
            generalize rdB m l j = s1 at *
            generalize rdA m l j = s2 at *
            generalize rdA m sm j = s4 at *
            have d1 : decide (s1 ≥ s1) = true := by simp
            have d2 : decide (s4 ≥ s2) = true := decide_eq_true g2
            clear hF hE
            go_wp2
            (refine wp_region_low (by kernel_rfl) (by kernel_rfl) ?_; (iterate 44 (apply quiet_want; (case hw => rfl); (case hval => (intro w1 hw1; have hcx := Low.cells hw1; simp only [Oper.quietAt]; go_simp; first | done | (first | fail) | rfl | exact ⟨rfl, rfl⟩)); simp only [Act.put, List.setIfInBounds_toArray, List.set_cons_zero, List.set_cons_succ])); (iterate 9 (apply quiet_skip; (case hw => rfl); simp only [Act.put, List.setIfInBounds_toArray, List.set_cons_zero, List.set_cons_succ])); (iterate 3 (apply quiet_want; (case hw => rfl); (case hval => (intro w1 hw1; have hcx := Low.cells hw1; simp only [Oper.quietAt]; go_simp; first | done | (first | fail) | rfl | exact ⟨rfl, rfl⟩)); simp only [Act.put, List.setIfInBounds_toArray, List.set_cons_zero, List.set_cons_succ])); refine wpQuiet_nil ?_; intro w2 hw2)
            have hBf := Lib.hid (hBB.out.trans (hw2.out.mono hzB))
            clear hw2 l1 l2 l3 l4
            go_wp2
            go_roundw
            case rel => exact ⟨j + 1, by omega, by go_num, rfl, hBf.out⟩
            case measure => simp [intOf]; omega
          · have dF : decide ((j : Int) > F) = true := by rw [decide_eq_true_eq]; omega
            clear g3 g4
            generalize rdB m l j = s1 at *
            generalize rdA m l j = s2 at *
            generalize rdB m sm j = s3 at *
            generalize rdA m sm j = s4 at *
            have d1 : decide (s3 ≥ s1) = true := decide_eq_true g1
            have d2 : decide (s4 ≥ s2) = true := decide_eq_true g2
            clear hF hE
            go_wp2
            (refine wp_region_low (by kernel_rfl) (by kernel_rfl) ?_; (iterate 28 (apply quiet_want; (case hw => rfl); (case hval => (intro w1 hw1; have hcx := Low.cells hw1; simp only [Oper.quietAt]; go_simp; first | done | (first | fail) | rfl | exact ⟨rfl, rfl⟩)); simp only [Act.put, List.setIfInBounds_toArray, List.set_cons_zero, List.set_cons_succ])); (iterate 9 (apply quiet_skip; (case hw => rfl); simp only [Act.put, List.setIfInBounds_toArray, List.set_cons_zero, List.set_cons_succ])); (iterate 7 (apply quiet_want; (case hw => rfl); (case hval => (intro w1 hw1; have hcx := Low.cells hw1; simp only [Oper.quietAt]; go_simp; first | done | (first | fail) | rfl | exact ⟨rfl, rfl⟩)); simp only [Act.put, List.setIfInBounds_toArray, List.set_cons_zero, List.set_cons_succ])); (iterate 9 (apply quiet_skip; (case hw => rfl); simp only [Act.put, List.setIfInBounds_toArray, List.set_cons_zero, List.set_cons_succ])); (iterate 3 (apply quiet_want; (case hw => rfl); (case hval => (intro w1 hw1; have hcx := Low.cells hw1; simp only [Oper.quietAt]; go_simp; first | done | (first | fail) | rfl | exact ⟨rfl, rfl⟩)); simp only [Act.put, List.setIfInBounds_toArray, List.set_cons_zero, List.set_cons_succ])); refine wpQuiet_nil ?_; intro w2 hw2)
            have hBf := Lib.hid (hBB.out.trans (hw2.out.mono hzB))
            clear hw2 l1 l2 l3 l4
            go_wp2
            go_roundw
            case rel => exact ⟨j + 1, by omega, by go_num, rfl, hBf.out⟩
            case measure => simp [intOf]; omega
      obtain rfl : j = m.ways.length := by omega
      have dj : decide ((m.ways.length : Int) < (m.ways.length : Int)) = false := by simp
      clear BE AF XS YS S0 L0
      replace M0 := Lib.hid ((M0.out.below hB).mono hzB)
      replace MB := Lib.hid (MB.out.below hB MB.out.lt)
      have BwD := Lib.hid (B4.out.trans (hB.mono B4.out.size))
      clear hB hzB
      obtain ⟨wD, hX⟩ : ∃ x, x = wr := ⟨_, rfl⟩
      subst hX
      obtain ⟨c0, c1, c2, c3, c4, c5, c6, c7, c8, c9, c10⟩ := msn_cells (m := m) MB.out
      go_wp2_with fail
      refine (f5.out _ M0.out (ints_nil _)).mono ?_
      rintro e w5 ⟨v5, u5, rfl, p5, q5, b5⟩
      have B5 := Lib.hid (BwD.out.trans (b5.mono BwD.out.size))
      replace M0 := Lib.hid ((M0.out.below b5).mono b5.size)
      replace MB := Lib.hid (MB.out.below b5 MB.out.lt)
      obtain ⟨bz, oz, gz, rfl, -, -⟩ := ints_at p5 (n := m.ways.length) (upto_length _ _) h0
      obtain ⟨bz', oz', gz', rfl, -, -⟩ := ints_at q5 (n := m.ways.length) (upto_length _ _) h0
      have NO := Lib.hid p5
      have NA := Lib.hid q5
      clear p5 q5
      clear b5
      clear NA
      clear c0 c1 c2 c3 c4 c5 c6 c7 c8 c9 c10
      obtain ⟨c0, c1, c2, c3, c4, c5, c6, c7, c8, c9, c10⟩ := msn_cells (m := m) MB.out
      go_wp2
      clear c0 c1 c2 c3 c4 c5 c6 c7 c8 c9 c10
      obtain ⟨wE, hX⟩ : ∃ x, x = w5 := ⟨_, rfl⟩
      subst hX
      go_loopw [7, 22, 23] (fun s x i wr => ∃ p : Nat, p < m.ways.length ∧ i = .int .i64 ((p : Int) + 1) ∧ x = .int .i64 (sumG m p) ∧ s = .bool true ∧ Below wE.heap.size wE wr) (fun _ _ i _ => m.ways.length - (intOf i).toNat)
      case atStart => exact ⟨0, h0, rfl, rfl, rfl, Below.refl _ _⟩
      case round =>
        obtain ⟨p, hp, rfl, rfl, rfl, hB⟩ := hrel
        have hzB := hB.size
        by_cases hlt : p + 1 < m.ways.length
        · have t1 := ints_row NO.out hlt
          have dj : decide ((p : Int) + 1 < (m.ways.length : Int)) = true := by simp; omega
          have jl : (p : Int) + 1 < m.ways.length := by omega
          have j0 : (0 : Int) ≤ (p : Int) + 1 := by omega
          have tn : ((p : Int) + 1).toNat = p + 1 := by omega
          have zp : IntKind.i64.wrap ((p : Int) + 1 - 1) = p := by rw [Int.add_sub_cancel]; exact IntWalk.i64_in _ (by omega)
          have zp2 : IntKind.i64.wrap (p : Int) = p := IntWalk.i64_in _ (by omega)
          obtain ⟨e1, e2, e3⟩ := HG.out p hlt
          have e4 := HG0.out (p + 1) hlt
          have fk := fun w1 h => fl.out (p : Int) ((p + 1 : Nat) : Int) w1 h
          rw [e1, show ((p + 1 : Nat) : Int) = (p : Int) + 1 by omega] at fk
          replace fk := Lib.hid fk
          have zs : IntKind.i64.wrap (sumG m p + gLeg m p (p + 1)) = sumG m (p + 1) := by rw [← e2]; exact IntWalk.i64_in _ (by omega)
          clear e1 e2 e3 e4
          have M1 := Lib.hid ((M0.out.below hB).mono hzB)
          have MC := Lib.hid (MB.out.below hB MB.out.lt)
          have BR := Lib.hid hB
          have s1 := (hB.cell (p := ⟨bz, oz + (p + 1), none⟩) (World.block_lt_of_cell? _ _ t1)).trans t1
          clear hB t1
          generalize hS1 : sumG m (p + 1) = S1 at *
          have HS1 := Lib.hid hS1
          clear hS1
          generalize sumG m p = S at *
          generalize gLeg m p (p + 1) = G at *
          generalize dLeg m p (p + 1) = D at *
          generalize tLeg m p (p + 1) = T at *
          obtain ⟨c0, c1, c2, c3, c4, c5, c6, c7, c8, c9, c10⟩ := msn_cells (m := m) MC.out
          go_wp2_with fail
          refine (fk.out _ M1.out).mono ?_
          rintro e wF ⟨rfl, bF⟩
          have s2 := (bF.cell (p := ⟨bz, oz + (p + 1), none⟩) (World.block_lt_of_cell? _ _ s1)).trans s1
          have BF := Lib.hid (BR.out.trans (bF.mono BR.out.size))
          clear bF s1 c0 c1 c2 c3 c4 c5 c6 c7 c8 c9 c10
          go_wp2
          go_roundw
          case rel => exact ⟨p + 1, by omega, by go_num, by rw [HS1.out], rfl, BF.out⟩
          case measure => simp [intOf]; omega
        obtain hpe : p + 1 = m.ways.length := by omega
        have dj : decide ((p : Int) + 1 < (m.ways.length : Int)) = false := by rw [decide_eq_false_iff_not]; omega
        have BZ := Lib.hid (B5.out.trans (hB.mono B5.out.size))
        clear hB hpe
        go_wp2
        go_ret
        exact ⟨rfl, BZ.out⟩

set_option maxRecDepth 100000 in
theorem lifted (os : Os) (started : os.Started) (H : Type) (enc : TypeId × Value → H) :
    ReturnsInHanded {} Try.checked os 3 .any (Rows.spreadStopsSpec.pre6 enc Try.prog Try.f3 Rows.spreadStopsRow.domain false) (Rows.spreadStopsSpec.post enc Try.prog Try.f3 false true false false) := by
  refine returnsInHanded_of_change_sized (C := Try.checked) own started (by kernel_rfl) Try.func3
    (ChangeSpec.witness6 (enc := enc) (C := Try.checked) false ⟨#[], #[.agg #[.slice none 0 0, .slice none 0 0, .int .i64 0, .slice none 0 0, .int .i64 0, .int .i64 0, .int .i64 0, .int .i64 0, .int .i64 0, .int .i64 0, .int .i64 0], .slice none 0 0, .int .u64 0], []⟩ 8 (by kernel_rfl) (by kernel_rfl) (by kernel_rfl) (by kernel_rfl)) ?_
  intro W base args ds gs before hval0 hW hcnd hsz0 _
  have hval : ∀ (j : Nat) t v, Try.f3.params[j]? = some t → args[j]? = some v → Value.okWide Try.prog W .any base t v := hval0
  have hW' := hW
  obtain ⟨p, q, hA0, hV, rfl, hfz, hnd⟩ := hW
  have hA : DataW.TrodAll enc Try.prog W 0 (fun _ => true) true Try.f3.params.toList args.toList ds p := hA0
  have hsz : (DataW.weightsEach Try.prog (Try.f3.params.toList ++ Rows.spreadStopsSpec.plain.varTypes Try.prog) (ds ++ gs)).all (· ≤ reachBytes) = true := hsz0
  rw [Try.params3] at hA hval hsz
  obtain ⟨v0, vs0, d0, ds0, p0, q0, hargs, rfl, rfl, h0, r0⟩ := trodAll_cons hA
  obtain ⟨v1, vs1, d1, ds1, p1, q1, rfl, rfl, rfl, h1, r1⟩ := trodAll_cons r0
  obtain ⟨v2, vs2, d2, ds2, p2, q2, rfl, rfl, rfl, h2, r2⟩ := trodAll_cons r1
  obtain ⟨rfl, rfl, rfl⟩ := trodAll_nil r2
  obtain rfl : args = #[v0, v1, v2] := by cases args; simp_all
  obtain ⟨rfl, rfl⟩ := trodVars_none hV
  have k0 := h0
  have lt0 : ∀ x ∈ p0, x.block < W.heap.size := by obtain ⟨m, hm⟩ := k0; exact DataW.trod_lt m _ _ _ hm
  have z0 : ∀ n ∈ d0.weights Try.prog 26, n ≤ reachBytes := fun n hn => by have := List.all_eq_true.1 hsz n (DataW.weights_mem_each (j := 0) (t := 26) (d := d0) rfl rfl n hn); simpa using this
  obtain ⟨a0, vw0, vh0, vr0, rfl, w0⟩ := open_msn (hval 0 26 v0 rfl rfl) h0 z0
  have k1 := h1
  have lt1 : ∀ x ∈ p1, x.block < W.heap.size := by obtain ⟨m, hm⟩ := k1; exact DataW.trod_lt m _ _ _ hm
  have z1 : ∀ n ∈ d1.weights Try.prog 27, n ≤ reachBytes := fun n hn => by have := List.all_eq_true.1 hsz n (DataW.weights_mem_each (j := 1) (t := 27) (d := d1) rfl rfl n hn); simpa using this
  obtain ⟨a1, w1⟩ := open_ints_arg (hval 1 27 v1 rfl rfl) h1 z1
  obtain ⟨a2, rfl, rfl, rfl, w2⟩ := open_int Try.underlying28 (hval 2 28 v2 rfl rfl) h2
  clear hA0 hval0
  refine (walk W a0 vw0 vh0 vr0 v1 a1 a2 w0 w1 w2).mono fun e W' ⟨he, bel⟩ => ?_
  subst he
  exact ⟨_, rfl, _, _, _, [], _, [], hW', trodAll_mk1 (shut_bool Try.underlying4 _), (trodAll_cons_mk (Below.trod laidOut (by kernel_rfl) (of_decide_eq_true (by kernel_rfl)) k0 bel lt0) (trodAll_cons_mk (Below.trod laidOut (by kernel_rfl) (of_decide_eq_true (by kernel_rfl)) k1 bel lt1) (trodAll_cons_mk (shut_int Try.underlying28 w2) trodAll_mk0))), rfl, bel.frame _, fun h => by cases h⟩

theorem over : Rows.spreadStopsRow.holds Try.pinned (OpenSpec.ofChange Rows.spreadStopsSpec) :=
  OpenClaim.holds_of_wide 3 Try.f3 rfl rfl rfl rfl rfl rfl rfl ⟨rfl, rfl, rfl, rfl, rfl⟩ rfl rfl rfl rfl rfl (by kernel_rfl) Try.func3 (by kernel_rfl)
    (of_decide_eq_true (by kernel_rfl)) (by unfold Func.isWrapper; first | (rw [if_pos (by decide +kernel)]; kernel_rfl) | (rw [if_neg (by decide +kernel)]; exact ⟨rfl, rfl⟩))
    (fun os started H enc _ => lifted os started H enc)

/-- the statement -/
theorem proved : Rows.SpreadStopsSaid := over
#print axioms proved
end Go.Proofs.Ytoekcefhphcjjaa.spreadStops
