/- Arguments opened: lists of points, of ways, of polygons, of integers; missions. -/
import Derived.ProofKit
import Derived.OpenShut
import Derived.ChangeOld
import Derived.SizedLaws
import Derived.Deep.Slices
import Derived.Deep.Fields
import Derived.Test.YtoekcefhphcjjaaBin01
import Derived.Test.YtoekcefhphcjjaaBin08
namespace Go.Proofs.Ytoekcefhphcjjaa
open Go.RowKit Go.ChangeShapes Go.WideShapes Go.Deep
set_option maxRecDepth 8000
instance openPt : Inhabited Pt := ⟨⟨0, 0⟩⟩

theorem cellsPt : Try.prog.cellsOf 38 = 2 := by kernel_rfl
theorem cellsInt : Try.prog.cellsOf 3 = 1 := by kernel_rfl
theorem u8_bd {i : Int} (h : (Lit.int .u8 i).wf = true) : ∃ k : Nat, i = k ∧ k ≤ 255 := by
  simp [Lit.wf, IntKind.min, IntKind.max, IntKind.signed, IntKind.bits] at h
  exact ⟨i.toNat, by omega, by omega⟩
theorem mod_at {i n : Nat} (h : 0 < n) : ∃ a : Nat, ((i : Int)).tmod (n : Int) = (a : Int) ∧ a < n ∧ (i : Int) % (n : Int) = (a : Int) := by
  refine ⟨i % n, ?_, Nat.mod_lt _ h, rfl⟩
  rw [Int.tmod_eq_emod_of_nonneg (by omega)]; rfl

section
variable {H : Type} {enc : TypeId × Value → H} {w : World} {base : Nat} {spare : Nat → Bool} {held : Bool}



theorem open_pt {fuel : Nat} {cs : List Value} {x : DataW H × List MemPlace} (h : DataW.trod enc Try.prog w base spare held fuel 38 cs = some x) : ∃ p : Pt, cs = [.int .i64 p.x, .int .i64 p.y] := by
  obtain ⟨xs, n, _, _, hlen, hxl, hf⟩ := DataW.trod_struct Try.underlying38 h
  rw [cellsPt] at hlen
  match cs, hlen with
  | [c0, c1], _ =>
    have g0 := hf 0 _ rfl
    have g1 := hf 1 _ rfl
    have l0 : xs[0]? = some (xs[0]'(by rw [hxl]; decide)) := List.getElem?_eq_getElem _
    have l1 : xs[1]? = some (xs[1]'(by rw [hxl]; decide)) := List.getElem?_eq_getElem _
    obtain ⟨a, ha, _⟩ := DataW.trod_int Try.underlying3 (g0.trans l0)
    obtain ⟨b, hb, _⟩ := DataW.trod_int Try.underlying3 (g1.trans l1)
    simp [cellsInt] at ha hb
    exact ⟨⟨a, b⟩, by rw [ha, hb]⟩







theorem open_point {b0 : Nat} {v : Value} {d : DataW H} {p : List MemPlace} (hv : Value.okWide Try.prog w .any b0 38 v) (h : DataW.Trod enc Try.prog w base spare held 38 v d p) :
    ∃ x y : Int, v = .agg #[.int .i64 x, .int .i64 y] := by
  obtain ⟨cs, rfl, hsz⟩ := okWide_struct Try.underlying38 hv
  obtain ⟨l⟩ := cs
  obtain ⟨fuel, hf⟩ := h
  obtain ⟨q, hq⟩ := open_pt hf
  simp [Value.cells] at hq
  exact ⟨q.x, q.y, by rw [hq]⟩
end
end Go.Proofs.Ytoekcefhphcjjaa
