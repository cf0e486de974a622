/- What Leg and Route return, for all integers: the program's and the reference's. -/
import Derived.Test.YtjnjmpakmgmdbaaRLeg
import Derived.Test.YtjnjmpakmgmdbaaFew
namespace Go.Proofs.Ytjnjmpakmgmdbaa
open Go.RowKit

noncomputable def okL (m : Msn) (i j : Int) : Bool := validB m && ixB m i && ixB m j
noncomputable def legA (m : Msn) (i j : Int) : Int := if okL m i j = true then dLeg m i.toNat j.toNat else 0
noncomputable def legT (m : Msn) (i j : Int) : Int := if okL m i j = true then tLeg m i.toNat j.toNat else 0
noncomputable def legG (m : Msn) (i j : Int) : Int := if okL m i j = true then gLeg m i.toNat j.toNat else 0
noncomputable def legE (m : Msn) (i j : Int) : Int := if okL m i j = true then 0 else 1
noncomputable def okR (m : Msn) (i : Int) : Bool := validB m && ixB m i
noncomputable def routeR (m : Msn) (i : Int) : List Int := if okR m i = true then intL (upto (itB m i.toNat) (dep m i.toNat + 1)) else []
noncomputable def routeE (m : Msn) (i : Int) : Int := if okR m i = true then 0 else 1

theorem okL_true {m : Msn} {i j : Int} (h : okL m i j = true) : ∃ a b : Nat, i = a ∧ j = b ∧ a < m.ways.length ∧ b < m.ways.length ∧ validB m = true := by
  simp only [okL, Bool.and_eq_true] at h
  obtain ⟨a, rfl, ha⟩ := ixB_true h.1.2
  obtain ⟨b, rfl, hb⟩ := ixB_true h.2
  exact ⟨a, b, rfl, rfl, ha, hb, h.1.1⟩
theorem okR_true {m : Msn} {i : Int} (h : okR m i = true) : ∃ a : Nat, i = a ∧ a < m.ways.length ∧ validB m = true := by
  simp only [okR, Bool.and_eq_true] at h
  obtain ⟨a, rfl, ha⟩ := ixB_true h.2
  exact ⟨a, rfl, ha, h.1⟩
theorem okL_mk {m : Msn} {a b : Nat} (hv : validB m = true) (ha : a < m.ways.length) (hb : b < m.ways.length) : okL m a b = true := by simp [okL, hv, ixB_mk ha, ixB_mk hb]
theorem okR_mk {m : Msn} {a : Nat} (hv : validB m = true) (ha : a < m.ways.length) : okR m a = true := by simp [okR, hv, ixB_mk ha]

/-- the value that Leg returns -/
noncomputable def legV (m : Msn) (i j : Int) : Value := .tuple #[.int .i64 (legA m i j), .int .i64 (legT m i j), .int .i64 (legG m i j), .int .i64 (legE m i j)]
theorem leg_nat {m : Msn} {a b : Nat} (hv : validB m = true) (ha : a < m.ways.length) (hb : b < m.ways.length) : legV m a b = .tuple #[.int .i64 (dLeg m a b), .int .i64 (tLeg m a b), .int .i64 (gLeg m a b), .int .i64 0] := by
  simp only [legV, legA, legT, legG, legE, okL_mk hv ha hb, if_true, Int.toNat_natCast]
theorem leg_bad {m : Msn} (i j : Int) (hv : validB m = false) : legV m i j = .tuple #[.int .i64 0, .int .i64 0, .int .i64 0, .int .i64 1] := by
  have : okL m i j = false := by simp [okL, hv]
  simp only [legV, legA, legT, legG, legE, this, Bool.false_eq_true, if_false]
theorem route_nat {m : Msn} {a : Nat} (hv : validB m = true) (ha : a < m.ways.length) : routeR m a = intL (upto (itB m a) (dep m a + 1)) ∧ routeE m a = 0 := by
  simp only [routeR, routeE, okR_mk hv ha, if_true, Int.toNat_natCast]; exact ⟨trivial, trivial⟩
theorem route_bad {m : Msn} (i : Int) (hv : validB m = false) : routeR m i = [] ∧ routeE m i = 1 := by
  have : okR m i = false := by simp [okR, hv]
  simp only [routeR, routeE, this, Bool.false_eq_true, if_false]; exact ⟨trivial, trivial⟩
theorem leg_all (m : Msn) (vw vh vr : Value) (i j : Int) (w : World) (hm : MsnAt w.heap.size w m vw vh vr) :
    Calls Try.prog 17 #[.agg (msnCells m vw vh vr), .int .i64 i, .int .i64 j] w fun e w' => e = .returned (legV m i j) ∧ Below w.heap.size w w' := by
  cases h : okL m i j
  · simp only [legV, legA, legT, legG, legE, h, Bool.false_eq_true, if_false]
    exact leg_no m vw vh vr i j w hm h
  · simp only [legV, legA, legT, legG, legE, h, if_true]
    obtain ⟨a, b, rfl, rfl, ha, hb, hv⟩ := okL_true h
    exact leg_yes m vw vh vr a b w hm hv ha hb
theorem rleg_all (m : Msn) (vw vh vr : Value) (i j : Int) (w : World) (hm : MsnAt w.heap.size w m vw vh vr) :
    Calls Try.prog 18 #[.agg (msnCells m vw vh vr), .int .i64 i, .int .i64 j] w fun e w' => e = .returned (legV m i j) ∧ Below w.heap.size w w' := by
  cases h : okL m i j
  · simp only [legV, legA, legT, legG, legE, h, Bool.false_eq_true, if_false]
    exact rleg_no m vw vh vr i j w hm h
  · simp only [legV, legA, legT, legG, legE, h, if_true]
    obtain ⟨a, b, rfl, rfl, ha, hb, hv⟩ := okL_true h
    exact rleg_yes m vw vh vr a b w hm hv ha hb
theorem route_all (m : Msn) (vw vh vr : Value) (i : Int) (w : World) (hm : MsnAt w.heap.size w m vw vh vr) :
    Calls Try.prog 21 #[.agg (msnCells m vw vh vr), .int .i64 i] w (RouteQ (routeR m i) (routeE m i) w) := by
  cases h : okR m i
  · simp only [routeR, routeE, h, Bool.false_eq_true, if_false]
    exact route_no m vw vh vr i w hm h
  · simp only [routeR, routeE, h, if_true]
    obtain ⟨a, rfl, ha, hv⟩ := okR_true h
    exact route_yes m vw vh vr a w hm hv ha
theorem rroute_all (m : Msn) (vw vh vr : Value) (i : Int) (w : World) (hm : MsnAt w.heap.size w m vw vh vr) :
    Calls Try.prog 22 #[.agg (msnCells m vw vh vr), .int .i64 i] w (RouteQ (routeR m i) (routeE m i) w) := by
  cases h : okR m i
  · simp only [routeR, routeE, h, Bool.false_eq_true, if_false]
    exact rroute_no m vw vh vr i w hm h
  · simp only [routeR, routeE, h, if_true]
    obtain ⟨a, rfl, ha, hv⟩ := okR_true h
    exact rroute_yes m vw vh vr a w hm hv ha
end Go.Proofs.Ytjnjmpakmgmdbaa
