/- package hull: ends, Box. | package cut: turn, crosses, floor; the reference's Down, Up in a wider range, differ. | A range over a function whose loop's variables are laid in a block each round: the law with the loop's slots left open. | New blocks, one behind the other: what is known of them, from the world behind them. | A region in text order, walked over a class of worlds as a drawn one is (quicker for many operations). -/
import Derived.Test.YtfbdidfaeplllaaGreatBin03
import Derived.Test.YtfbdidfaeplllaaGreatBin01
import Derived.Test.YtfbdidfaeplllaaGreatBin05
import Derived.Test.YtfbdidfaeplllaaGreatBin02
namespace Go.Proofs.YtfbdidfaeplllaaGreat
open Go.RowKit
attribute [local irreducible] wpQuiet

/-- the least, the greatest number that a function makes of the first k corners (and the first one) -/
def loTo (f : Pt → Int) (l : List Pt) : Nat → Int
  | 0 => f (nth l 0)
  | k + 1 => if f (nth l k) < loTo f l k then f (nth l k) else loTo f l k
def hiTo (f : Pt → Int) (l : List Pt) : Nat → Int
  | 0 => f (nth l 0)
  | k + 1 => if hiTo f l k < f (nth l k) then f (nth l k) else hiTo f l k
def bxF1 (p : Pt) : Int := p.x
def bxF2 (p : Pt) : Int := p.y

theorem bx_any_1 (x y : Int) (w : World) :
    Calls Tryz.prog 101 #[.agg #[.int .i64 x, .int .i64 y]] w fun e w' => e = .returned (.int .i64 (bxF1 ⟨x, y⟩)) ∧ Below w.heap.size w w' := by
  unfold bxF1
  go_enter Tryz.func101, Tryz.ntmps101
  go_wp2
  go_ret
  exact ⟨rfl, by repeat (first | exact Below.refl _ _ | assumption | apply Below.drew | refine Below.setCell ?_ (by first | omega | (simp; done) | (simp; omega)) _ | refine Below.alloc ?_ (by first | omega | (simp; done) | (simp; omega)) _ | refine Below.call (by assumption) ?_ (by first | omega | (simp; done) | (simp; omega)))⟩

set_option linter.unusedSimpArgs false in
set_option maxHeartbeats 800000 in
theorem ends_1 (v : Value) (l : List Pt) (w : World) (hp : PtsAt w.heap.size w v l) (h1 : 0 < l.length) :
    Calls Tryz.prog 100 #[v, .func (.func 101) #[] #[]] w fun e w' => e = .returned (.tuple #[.int .i64 (loTo bxF1 l l.length), .int .i64 (hiTo bxF1 l l.length)]) ∧ Below w.heap.size w w' := by
  obtain ⟨hl, a, cap, rfl, hc⟩ := hp
  obtain ⟨b, o, rfl, hb, hc⟩ : ∃ b o, a = some ⟨b, o, none⟩ ∧ b < w.heap.size ∧ ∀ j, j < l.length → w.cell? ⟨b, o + j * 2, none⟩ = some (.int .i64 (nth l j).x) ∧ w.cell? ⟨b, o + j * 2 + 1, none⟩ = some (.int .i64 (nth l j).y) := by
    rcases hc with h | h
    · rw [h] at h1; simp at h1
    · exact h
  obtain ⟨e0, e1⟩ := hc 0 h1
  rw [Nat.zero_mul, Nat.add_zero] at e0 e1
  have l0 := Low.fact e0
  have l1 := Low.fact e1
  have HC := Lib.hid hc
  have hf := bx_any_1 (nth l 0).x (nth l 0).y
  have hff : bxF1 ⟨(nth l 0).x, (nth l 0).y⟩ = loTo bxF1 l 0 := rfl
  rw [hff] at hf
  have hf' := Lib.hid hf
  have i0 : (0 : Int) < l.length := by omega
  have i1 : (0 : Int) ≤ 0 := by omega
  clear hc hf hff e0 e1
  generalize (nth l 0).x = p0 at *
  generalize (nth l 0).y = p1 at *
  go_enter Tryz.func100, Tryz.ntmps100
  go_wp2
  (refine wp_region_low (by kernel_rfl) (by kernel_rfl) ?_; (iterate 12 (apply quiet_want; (case hw => rfl); (case hval => (intro w1 hw1; have hcx := Low.cells hw1; simp only [Oper.quietAt]; go_simp; first | done | (first | (go_at_call 101; exact Low.calls hw1 (hf'.out _))) | rfl | exact ⟨rfl, rfl⟩)); simp only [Act.put, List.setIfInBounds_toArray, List.set_cons_zero, List.set_cons_succ])); refine wpQuiet_nil ?_; intro w2 hw2)
  have B2 := hw2.out
  have hH := Lib.hid (show loTo bxF1 l 0 = hiTo bxF1 l 0 from rfl)
  have HB := Lib.hid B2
  clear hw2 l0 l1 B2
  generalize w2 = w1 at *
  have hz1 := HB.out.size
  go_wp2
  go_loopw [6, 7, 22] (fun x y i wr => ∃ k : Nat, k ≤ l.length ∧ i = .int .i64 (k : Int) ∧ x = .int .i64 (loTo bxF1 l k) ∧ y = .int .i64 (hiTo bxF1 l k) ∧ Below w.heap.size w wr) (fun _ _ i _ => l.length - (intOf i).toNat)
  case atStart => exact ⟨0, by omega, rfl, rfl, rfl, HB.out⟩
  case round =>
    obtain ⟨k, hk, rfl, rfl, rfl, hB⟩ := hrel
    have hzB := hB.size
    by_cases hlt : k < l.length
    · obtain ⟨q0, q1⟩ := HC.out k hlt
      have e0 := (hB.cell (p := ⟨b, o + k * 2, none⟩) hb).trans q0
      have e1 := (hB.cell (p := ⟨b, o + k * 2 + 1, none⟩) hb).trans q1
      have hs : Hid (loTo bxF1 l (k + 1) = (if bxF1 ⟨(nth l k).x, (nth l k).y⟩ < loTo bxF1 l k then bxF1 ⟨(nth l k).x, (nth l k).y⟩ else loTo bxF1 l k) ∧ hiTo bxF1 l (k + 1) = (if hiTo bxF1 l k < bxF1 ⟨(nth l k).x, (nth l k).y⟩ then bxF1 ⟨(nth l k).x, (nth l k).y⟩ else hiTo bxF1 l k)) := ⟨rfl, rfl⟩
      have hf := Lib.hid (bx_any_1 (nth l k).x (nth l k).y)
      have dk : decide ((k : Int) < (l.length : Int)) = true := by simp; omega
      have kl : (k : Int) < l.length := by omega
      have k0 : (0 : Int) ≤ k := by omega
      have hBB := Lib.hid hB
      generalize bxF1 ⟨(nth l k).x, (nth l k).y⟩ = f0 at *
      generalize (nth l k).x = px at *
      generalize (nth l k).y = py at *
      generalize loTo bxF1 l k = lo at *
      generalize hiTo bxF1 l k = hi at *
      clear q0 q1 hB
      go_wp2
      have hN := Has.new wr #[.int .i64 px, .int .i64 py] 31
      have hBn := hBB.out.alloc hzB (.cells #[.int .i64 px, .int .i64 py] 31)
      have x0 : (wr.alloc (.cells #[.int .i64 px, .int .i64 py] 31)).cell? ⟨wr.heap.size, 0, none⟩ = some (.int .i64 px) := hN.cell (i := 0) rfl
      have x1 : (wr.alloc (.cells #[.int .i64 px, .int .i64 py] 31)).cell? ⟨wr.heap.size, 1, none⟩ = some (.int .i64 py) := hN.cell (i := 1) rfl
      have hlN := hN.lt
      have l0 := Low.fact x0
      have l1 := Low.fact x1
      have HN := Lib.hid hBn
      clear hN hBn x0 x1 e0 e1
      generalize wr.alloc (.cells #[.int .i64 px, .int .i64 py] 31) = w3 at *
      (refine wp_region_low (by kernel_rfl) (by kernel_rfl) ?_; (iterate 12 (apply quiet_want; (case hw => rfl); (case hval => (intro w1 hw1; have hcx := Low.cells hw1; simp only [Oper.quietAt]; go_simp; first | done | (first | (go_at_call 101; exact Low.calls hw1 (hf.out _))) | rfl | exact ⟨rfl, rfl⟩)); simp only [Act.put, List.setIfInBounds_toArray, List.set_cons_zero, List.set_cons_succ])); refine wpQuiet_nil ?_; intro w2 hw2)
      have HF := Lib.hid (HN.out.trans (hw2.out.mono HN.out.size))
      clear hw2 l0 l1
      go_wp2
      go_roundw
      case rel => exact ⟨k + 1, by omega, by go_num, by rw [hs.out.1], by rw [hs.out.2], HF.out⟩
      case measure => simp [intOf]; omega
    · obtain rfl : k = l.length := by omega
      have dk : decide ((l.length : Int) < (l.length : Int)) = false := by simp
      go_wp2
      go_ret2
      exact ⟨rfl, hB⟩
theorem bx_any_2 (x y : Int) (w : World) :
    Calls Tryz.prog 102 #[.agg #[.int .i64 x, .int .i64 y]] w fun e w' => e = .returned (.int .i64 (bxF2 ⟨x, y⟩)) ∧ Below w.heap.size w w' := by
  unfold bxF2
  go_enter Tryz.func102, Tryz.ntmps102
  go_wp2
  go_ret
  exact ⟨rfl, by repeat (first | exact Below.refl _ _ | assumption | apply Below.drew | refine Below.setCell ?_ (by first | omega | (simp; done) | (simp; omega)) _ | refine Below.alloc ?_ (by first | omega | (simp; done) | (simp; omega)) _ | refine Below.call (by assumption) ?_ (by first | omega | (simp; done) | (simp; omega)))⟩

set_option linter.unusedSimpArgs false in
set_option maxHeartbeats 800000 in
theorem ends_2 (v : Value) (l : List Pt) (w : World) (hp : PtsAt w.heap.size w v l) (h1 : 0 < l.length) :
    Calls Tryz.prog 100 #[v, .func (.func 102) #[] #[]] w fun e w' => e = .returned (.tuple #[.int .i64 (loTo bxF2 l l.length), .int .i64 (hiTo bxF2 l l.length)]) ∧ Below w.heap.size w w' := by
  obtain ⟨hl, a, cap, rfl, hc⟩ := hp
  obtain ⟨b, o, rfl, hb, hc⟩ : ∃ b o, a = some ⟨b, o, none⟩ ∧ b < w.heap.size ∧ ∀ j, j < l.length → w.cell? ⟨b, o + j * 2, none⟩ = some (.int .i64 (nth l j).x) ∧ w.cell? ⟨b, o + j * 2 + 1, none⟩ = some (.int .i64 (nth l j).y) := by
    rcases hc with h | h
    · rw [h] at h1; simp at h1
    · exact h
  obtain ⟨e0, e1⟩ := hc 0 h1
  rw [Nat.zero_mul, Nat.add_zero] at e0 e1
  have l0 := Low.fact e0
  have l1 := Low.fact e1
  have HC := Lib.hid hc
  have hf := bx_any_2 (nth l 0).x (nth l 0).y
  have hff : bxF2 ⟨(nth l 0).x, (nth l 0).y⟩ = loTo bxF2 l 0 := rfl
  rw [hff] at hf
  have hf' := Lib.hid hf
  have i0 : (0 : Int) < l.length := by omega
  have i1 : (0 : Int) ≤ 0 := by omega
  clear hc hf hff e0 e1
  generalize (nth l 0).x = p0 at *
  generalize (nth l 0).y = p1 at *
  go_enter Tryz.func100, Tryz.ntmps100
  go_wp2
  (refine wp_region_low (by kernel_rfl) (by kernel_rfl) ?_; (iterate 12 (apply quiet_want; (case hw => rfl); (case hval => (intro w1 hw1; have hcx := Low.cells hw1; simp only [Oper.quietAt]; go_simp; first | done | (first | (go_at_call 102; exact Low.calls hw1 (hf'.out _))) | rfl | exact ⟨rfl, rfl⟩)); simp only [Act.put, List.setIfInBounds_toArray, List.set_cons_zero, List.set_cons_succ])); refine wpQuiet_nil ?_; intro w2 hw2)
  have B2 := hw2.out
  have hH := Lib.hid (show loTo bxF2 l 0 = hiTo bxF2 l 0 from rfl)
  have HB := Lib.hid B2
  clear hw2 l0 l1 B2
  generalize w2 = w1 at *
  have hz1 := HB.out.size
  go_wp2
  go_loopw [6, 7, 22] (fun x y i wr => ∃ k : Nat, k ≤ l.length ∧ i = .int .i64 (k : Int) ∧ x = .int .i64 (loTo bxF2 l k) ∧ y = .int .i64 (hiTo bxF2 l k) ∧ Below w.heap.size w wr) (fun _ _ i _ => l.length - (intOf i).toNat)
  case atStart => exact ⟨0, by omega, rfl, rfl, rfl, HB.out⟩
  case round =>
    obtain ⟨k, hk, rfl, rfl, rfl, hB⟩ := hrel
    have hzB := hB.size
    by_cases hlt : k < l.length
    · obtain ⟨q0, q1⟩ := HC.out k hlt
      have e0 := (hB.cell (p := ⟨b, o + k * 2, none⟩) hb).trans q0
      have e1 := (hB.cell (p := ⟨b, o + k * 2 + 1, none⟩) hb).trans q1
      have hs : Hid (loTo bxF2 l (k + 1) = (if bxF2 ⟨(nth l k).x, (nth l k).y⟩ < loTo bxF2 l k then bxF2 ⟨(nth l k).x, (nth l k).y⟩ else loTo bxF2 l k) ∧ hiTo bxF2 l (k + 1) = (if hiTo bxF2 l k < bxF2 ⟨(nth l k).x, (nth l k).y⟩ then bxF2 ⟨(nth l k).x, (nth l k).y⟩ else hiTo bxF2 l k)) := ⟨rfl, rfl⟩
      have hf := Lib.hid (bx_any_2 (nth l k).x (nth l k).y)
      have dk : decide ((k : Int) < (l.length : Int)) = true := by simp; omega
      have kl : (k : Int) < l.length := by omega
      have k0 : (0 : Int) ≤ k := by omega
      have hBB := Lib.hid hB
      generalize bxF2 ⟨(nth l k).x, (nth l k).y⟩ = f0 at *
      generalize (nth l k).x = px at *
      generalize (nth l k).y = py at *
      generalize loTo bxF2 l k = lo at *
      generalize hiTo bxF2 l k = hi at *
      clear q0 q1 hB
      go_wp2
      have hN := Has.new wr #[.int .i64 px, .int .i64 py] 31
      have hBn := hBB.out.alloc hzB (.cells #[.int .i64 px, .int .i64 py] 31)
      have x0 : (wr.alloc (.cells #[.int .i64 px, .int .i64 py] 31)).cell? ⟨wr.heap.size, 0, none⟩ = some (.int .i64 px) := hN.cell (i := 0) rfl
      have x1 : (wr.alloc (.cells #[.int .i64 px, .int .i64 py] 31)).cell? ⟨wr.heap.size, 1, none⟩ = some (.int .i64 py) := hN.cell (i := 1) rfl
      have hlN := hN.lt
      have l0 := Low.fact x0
      have l1 := Low.fact x1
      have HN := Lib.hid hBn
      clear hN hBn x0 x1 e0 e1
      generalize wr.alloc (.cells #[.int .i64 px, .int .i64 py] 31) = w3 at *
      (refine wp_region_low (by kernel_rfl) (by kernel_rfl) ?_; (iterate 12 (apply quiet_want; (case hw => rfl); (case hval => (intro w1 hw1; have hcx := Low.cells hw1; simp only [Oper.quietAt]; go_simp; first | done | (first | (go_at_call 102; exact Low.calls hw1 (hf.out _))) | rfl | exact ⟨rfl, rfl⟩)); simp only [Act.put, List.setIfInBounds_toArray, List.set_cons_zero, List.set_cons_succ])); refine wpQuiet_nil ?_; intro w2 hw2)
      have HF := Lib.hid (HN.out.trans (hw2.out.mono HN.out.size))
      clear hw2 l0 l1
      go_wp2
      go_roundw
      case rel => exact ⟨k + 1, by omega, by go_num, by rw [hs.out.1], by rw [hs.out.2], HF.out⟩
      case measure => simp [intOf]; omega
    · obtain rfl : k = l.length := by omega
      have dk : decide ((l.length : Int) < (l.length : Int)) = false := by simp
      go_wp2
      go_ret2
      exact ⟨rfl, hB⟩
end Go.Proofs.YtfbdidfaeplllaaGreat

namespace Go.Proofs.YtfbdidfaeplllaaGreat
open Go.RowKit
attribute [local irreducible] wpQuiet



/-- two numbers have different signs -/
def crossB (s t : Int) : Bool := decide (s < 0 ∧ 0 < t ∨ 0 < s ∧ t < 0)

end Go.Proofs.YtfbdidfaeplllaaGreat

namespace Go.Proofs.YtfbdidfaeplllaaGreat
open Go.RowKit Go.Shelf

section
variable {F : Fence} {n : Nat} {P : Program}
/-- the slots T of the loop's function need not be written: up says what a round's assignments make of them, Hx what they lay (at B) -/
theorem wpIn_rangeK {α : Type} {g : Operand} {ps : Array Tmp} {assign body : Code} {Q : Exit → Act → World → Prop} {T : Array Value} {w : World}
    (hro : F.round = none) (h1 : 1 ≤ n) {gf : Nat} {lb : Array Value} (hg : ({ tmps := T, defers := [] } : Act).eval g = .func (.func gf) #[] lb) (hFg : F.fn gf) (eg : ∀ args w, (callFunc gf args).run P w = .ok (.enter gf args) w)
    {encs : α → Array Value} {Kp : World → World → Prop} {S Sp : List α → Prop} {N : Nat} {w0 : World} (hseq : SeqStopsK F (n - 1) P gf lb encs Kp S Sp N w0)
    (hKt : ∀ {A B C : World}, Kp A B → Kp B C → Kp A C) (hKb : ∀ (W : World) (l : Nat) (o o' : Obj), w.heap.size ≤ l → W.heap[l]? = some o → o.isCells = false → o.isWalk = false → Kp W (W.putObj l o')) (hb0 : Below w0.heap.size w0 w) (hps : ∀ x, (encs x).size = ps.size)
    (I : List α → World → Prop) (Ix : Code → List α → World → Prop) (hI : OwnFrom w.heap.size I) (hIx : ∀ c, OwnFrom w.heap.size (Ix c)) (h0 : I [] w)
    (up : Array Value → α → Nat → Array Value) (Hx : α → Nat → World → Prop) (hHx : ∀ x B, OwnFrom w.heap.size (fun (_ : Unit) W => Hx x B W))
    (hassign : ∀ (l : Nat) (pre : List α) (x : α) (W : World) (K : Act → World → Prop), I pre W → (∀ B W', KeepsFrom w.heap.size W W' → Kp W W' → I pre W' → Hx x B W' → K { tmps := up T x B, defers := [] } W') →
      assign.wpIn (F.inRound l) (n - 1 - 1) P (Exit.then K (fun _ _ _ => False)) { tmps := (ps.zip (encs x)).foldl (fun t (p, v) => t.setIfInBounds p v) T, defers := [] } W)
    (hbody : ∀ (l : Nat) (pre : List α) (x : α) (B : Nat) (W : World), w.heap.size ≤ l → (∃ r, W.heap[l]? = some (.loop r)) → I pre W → Hx x B W → pre.length < N → body.wpIn (F.inRound l) (n - 1 - 1) P (ownPostG w.heap.size Kp I Ix (pre ++ [x]) W) { tmps := up T x B, defers := [] } W)
    (hdone : ∀ (D : Nat) (xs : List α) (W : World), w.heap.size ≤ D → S xs → I xs W → W.heap[D]? = some (.deferred (some [])) → Q .normal { tmps := T, defers := [{ target := .collected D, args := #[] }] } W)
    (hstop : ∀ (D : Nat) (c : Code) (pre : List α) (W : World), w.heap.size ≤ D → Sp pre → Ix c pre W → W.heap[D]? = some (.deferred (some [])) → c.wpIn F n P Q { tmps := T, defers := [{ target := .collected D, args := #[] }] } W) :
    (Code.rangeFunc g ps assign body).wpIn F n P Q { tmps := T, defers := [] } w := by
  refine wpIn_rangeFunc_ownH hro h1 hg hFg eg hseq hKt hKb hb0 hps I Ix hI hIx h0 (fun x a' W => ∃ B, Hx x B W ∧ a' = { tmps := up T x B, defers := [] })
    (fun x a' _ X Y row hs hg hr => by obtain ⟨B, h, e⟩ := hs; exact ⟨B, hHx x B () X Y row h hg hr, e⟩) ?_ ?_ hdone hstop
  · intro l pre x W K hi hK
    exact hassign l pre x W K hi fun B W' k1 k2 k3 k4 => hK _ W' k1 k2 k3 ⟨B, k4, rfl⟩
  · rintro l pre x a' W hl hr hi ⟨B, hb, rfl⟩ hlt
    exact hbody l pre x B W hl hr hi hb hlt
end
/-- a block laid in a round stays -/
theorem ownFrom_has (n B : Nat) (cs : Array Value) (t : TypeId) : OwnFrom n (fun (_ : Unit) W => Has W B cs t) := fun _ _ _ _ hs hg hr => has_kept hs hg (fun r e => (hr r e).2)
end Go.Proofs.YtfbdidfaeplllaaGreat

namespace Go.Proofs.YtfbdidfaeplllaaGreat
open Go.RowKit
section
variable {w X : World} {c1 c2 c3 c4 c5 : Array Value} {t1 t2 t3 t4 t5 : TypeId}
theorem box1 (h : w.alloc (.cells c1 t1) = X) : Has X w.heap.size c1 t1 ∧ Below w.heap.size w X ∧ X.heap.size = w.heap.size + 1 := by
  subst h
  exact ⟨Has.new _ _ _, (Below.refl _ _).alloc (Nat.le_refl _) _, by simp⟩
theorem box2 (h : (w.alloc (.cells c1 t1)).alloc (.cells c2 t2) = X) : Has X w.heap.size c1 t1 ∧ Has X (w.heap.size + 1) c2 t2 ∧ Below w.heap.size w X ∧ X.heap.size = w.heap.size + 2 := by
  obtain ⟨a, b, z⟩ := box1 (w := w) (c1 := c1) (t1 := t1) rfl
  obtain ⟨a', b', z'⟩ := box1 h
  rw [z] at a' b' z'
  exact ⟨a.below b' (by omega), a', b.trans (b'.mono (by omega)), z'⟩
theorem box3 (h : ((w.alloc (.cells c1 t1)).alloc (.cells c2 t2)).alloc (.cells c3 t3) = X) : Has X w.heap.size c1 t1 ∧ Has X (w.heap.size + 1) c2 t2 ∧ Has X (w.heap.size + 1 + 1) c3 t3 ∧ Below w.heap.size w X ∧ X.heap.size = w.heap.size + 3 := by
  obtain ⟨a, a2, b, z⟩ := box2 (w := w) (c1 := c1) (t1 := t1) (c2 := c2) (t2 := t2) rfl
  obtain ⟨a', b', z'⟩ := box1 h
  rw [z] at a' b' z'
  exact ⟨a.below b' (by omega), a2.below b' (by omega), a', b.trans (b'.mono (by omega)), z'⟩
theorem box4 (h : (((w.alloc (.cells c1 t1)).alloc (.cells c2 t2)).alloc (.cells c3 t3)).alloc (.cells c4 t4) = X) : Has X w.heap.size c1 t1 ∧ Has X (w.heap.size + 1) c2 t2 ∧ Has X (w.heap.size + 1 + 1) c3 t3 ∧ Has X (w.heap.size + 1 + 1 + 1) c4 t4 ∧ Below w.heap.size w X ∧ X.heap.size = w.heap.size + 4 := by
  obtain ⟨a, a2, a3, b, z⟩ := box3 (w := w) (c1 := c1) (t1 := t1) (c2 := c2) (t2 := t2) (c3 := c3) (t3 := t3) rfl
  obtain ⟨a', b', z'⟩ := box1 h
  rw [z] at a' b' z'
  exact ⟨a.below b' (by omega), a2.below b' (by omega), a3.below b' (by omega), a', b.trans (b'.mono (by omega)), z'⟩
theorem box5 (h : ((((w.alloc (.cells c1 t1)).alloc (.cells c2 t2)).alloc (.cells c3 t3)).alloc (.cells c4 t4)).alloc (.cells c5 t5) = X) : Has X w.heap.size c1 t1 ∧ Has X (w.heap.size + 1) c2 t2 ∧ Has X (w.heap.size + 1 + 1) c3 t3 ∧ Has X (w.heap.size + 1 + 1 + 1) c4 t4 ∧ Has X (w.heap.size + 1 + 1 + 1 + 1) c5 t5 ∧ Below w.heap.size w X ∧ X.heap.size = w.heap.size + 5 := by
  obtain ⟨a, a2, a3, a4, b, z⟩ := box4 (w := w) (c1 := c1) (t1 := t1) (c2 := c2) (t2 := t2) (c3 := c3) (t3 := t3) (c4 := c4) (t4 := t4) rfl
  obtain ⟨a', b', z'⟩ := box1 h
  rw [z] at a' b' z'
  exact ⟨a.below b' (by omega), a2.below b' (by omega), a3.below b' (by omega), a4.below b' (by omega), a', b.trans (b'.mono (by omega)), z'⟩
end
end Go.Proofs.YtfbdidfaeplllaaGreat

namespace Go.Proofs.YtfbdidfaeplllaaGreat
open Go.RowKit
section
variable {P : Program} {ops : Array Oper} {Q : Exit → Act → World → Prop} {w : World}
theorem wpList_of_quiet : ∀ (l : List Oper) (a : Act) (w' : World), Low w w' → wpQuiet P ops (Low w) (fun a' => ∀ w', Low w w' → Q .normal a' w') l a → wpList P ops Q l a w'
  | [], a, w', hw, h => h w' hw
  | o :: rest, a, w', hw, h => by
    unfold wpQuiet at h
    unfold wpList
    split at h
    · rename_i hwt
      rw [if_pos hwt]
      exact .inl (Oper.wp_of_quiet hw (fun a w'' hc hk => wpList_of_quiet rest a w'' hc hk) h)
    · rename_i hwt
      rw [if_neg hwt]
      exact wpList_of_quiet rest _ _ hw h
theorem wp_region_lows {id : Nat} {a : Act} {l : List Oper} (h : wpQuiet P l.toArray (Low w) (fun a' => ∀ w', Low w w' → Q .normal a' w') l a) : (Code.region id l.toArray false).wp P Q a w :=
  wp_region_lit (wpList_of_quiet l a w (Below.refl _ _) h)
end
end Go.Proofs.YtfbdidfaeplllaaGreat
