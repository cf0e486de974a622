/- What Leg and Route return, for all integers: the program's and the reference's. -/
import Derived.OwnWalkIn
import Derived.Test.YtfbdidfaeplllaaGreatBin06
import Derived.Test.YtfbdidfaeplllaaGreatBin07
namespace Go.Proofs.YtfbdidfaeplllaaGreat
open Go.RowKit

noncomputable def okL (m : Msn) (i j : Int) : Bool := validB m && ixB m i && ixB m j
noncomputable def legA (m : Msn) (i j : Int) : Int := if okL m i j = true then dLeg m i.toNat j.toNat else 0
noncomputable def legT (m : Msn) (i j : Int) : Int := if okL m i j = true then tLeg m i.toNat j.toNat else 0
noncomputable def legG (m : Msn) (i j : Int) : Int := if okL m i j = true then gLeg m i.toNat j.toNat else 0
noncomputable def legE (m : Msn) (i j : Int) : Int := if okL m i j = true then 0 else 1
noncomputable def okR (m : Msn) (i : Int) : Bool := validB m && ixB m i

theorem okL_true {m : Msn} {i j : Int} (h : okL m i j = true) : ∃ a b : Nat, i = a ∧ j = b ∧ a < m.ways.length ∧ b < m.ways.length ∧ validB m = true := by
  simp only [okL, Bool.and_eq_true] at h
  obtain ⟨a, rfl, ha⟩ := ixB_true h.1.2
  obtain ⟨b, rfl, hb⟩ := ixB_true h.2
  exact ⟨a, b, rfl, rfl, ha, hb, h.1.1⟩
theorem okL_mk {m : Msn} {a b : Nat} (hv : validB m = true) (ha : a < m.ways.length) (hb : b < m.ways.length) : okL m a b = true := by simp [okL, hv, ixB_mk ha, ixB_mk hb]

/-- the value that Leg returns -/
noncomputable def legV (m : Msn) (i j : Int) : Value := .tuple #[.int .i64 (legA m i j), .int .i64 (legT m i j), .int .i64 (legG m i j), .int .i64 (legE m i j)]
theorem leg_nat {m : Msn} {a b : Nat} (hv : validB m = true) (ha : a < m.ways.length) (hb : b < m.ways.length) : legV m a b = .tuple #[.int .i64 (dLeg m a b), .int .i64 (tLeg m a b), .int .i64 (gLeg m a b), .int .i64 0] := by
  simp only [legV, legA, legT, legG, legE, okL_mk hv ha hb, if_true, Int.toNat_natCast]
theorem leg_all (m : Msn) (vw vh vr : Value) (i j : Int) (w : World) (hm : MsnAt w.heap.size w m vw vh vr) :
    Calls Tryz.prog 71 #[.agg (msnCells m vw vh vr), .int .i64 i, .int .i64 j] w fun e w' => e = .returned (legV m i j) ∧ Below w.heap.size w w' := by
  cases h : okL m i j
  · simp only [legV, legA, legT, legG, legE, h, Bool.false_eq_true, if_false]
    exact leg_no m vw vh vr i j w hm h
  · simp only [legV, legA, legT, legG, legE, h, if_true]
    obtain ⟨a, b, rfl, rfl, ha, hb, hv⟩ := okL_true h
    exact leg_yes m vw vh vr a b w hm hv ha hb
end Go.Proofs.YtfbdidfaeplllaaGreat
