/- Missions: what they are, and how they lie in memory. -/
import Derived.Test.YtjjkmonfihomnaaMem
namespace Go.Proofs.Ytjjkmonfihomnaa
open Go.RowKit

structure Wy where
  x : Int
  y : Int
  fix : Int
  wait : Int
  back : Int
deriving DecidableEq

structure Msn where
  ways : List Wy
  home : List Pt
  start : Int
  rocks : List (List Pt)
  speed : Int
  part : Int
  flow : Int
  idle : Int
  drive : Int
  battery : Int
  deadline : Int

/-- way i of a list -/
def wy (l : List Wy) (i : Nat) : Wy := l.getD i ⟨0, 0, 0, 0, 0⟩
/-- rock i of a list -/
def rk (l : List (List Pt)) (i : Nat) : List Pt := l.getD i []

/-- the value of a way -/
def wyVal (a : Wy) : Value := .agg #[.int .i64 a.x, .int .i64 a.y, .int .i64 a.fix, .int .i64 a.wait, .int .i64 a.back]

/-- A slice value reads as a list of ways. -/
def WaysAt (n0 : Nat) (W : World) (v : Value) (l : List Wy) : Prop :=
  l.length ≤ 70368744177663 ∧ ∃ a cap, v = .slice a l.length (l.length + cap) ∧ (l = [] ∨ ∃ b o, a = some ⟨b, o, none⟩ ∧ b < n0 ∧
    ∀ j, j < l.length → W.cell? ⟨b, o + j * 5, none⟩ = some (.int .i64 (wy l j).x) ∧ W.cell? ⟨b, o + j * 5 + 1, none⟩ = some (.int .i64 (wy l j).y) ∧
      W.cell? ⟨b, o + j * 5 + 2, none⟩ = some (.int .i64 (wy l j).fix) ∧ W.cell? ⟨b, o + j * 5 + 3, none⟩ = some (.int .i64 (wy l j).wait) ∧ W.cell? ⟨b, o + j * 5 + 4, none⟩ = some (.int .i64 (wy l j).back))

theorem WaysAt.below {n0 : Nat} {A B : World} (h : Below n0 A B) {v : Value} {l : List Wy} (hp : WaysAt n0 A v l) : WaysAt n0 B v l := by
  obtain ⟨hl, a, cap, e, hc⟩ := hp
  refine ⟨hl, a, cap, e, hc.imp id ?_⟩
  rintro ⟨b, o, e1, hb, hc⟩
  refine ⟨b, o, e1, hb, fun j hj => ?_⟩
  obtain ⟨c0, c1, c2, c3, c4⟩ := hc j hj
  exact ⟨(h.cell (p := ⟨b, o + j * 5, none⟩) hb).trans c0, (h.cell (p := ⟨b, o + j * 5 + 1, none⟩) hb).trans c1, (h.cell (p := ⟨b, o + j * 5 + 2, none⟩) hb).trans c2,
    (h.cell (p := ⟨b, o + j * 5 + 3, none⟩) hb).trans c3, (h.cell (p := ⟨b, o + j * 5 + 4, none⟩) hb).trans c4⟩
theorem WaysAt.mono {n0 n1 : Nat} {W : World} {v : Value} {l : List Wy} (hp : WaysAt n0 W v l) (h : n0 ≤ n1) : WaysAt n1 W v l := by
  obtain ⟨hl, a, cap, e, hc⟩ := hp
  refine ⟨hl, a, cap, e, hc.imp id ?_⟩
  rintro ⟨b, o, e1, hb, hc⟩
  exact ⟨b, o, e1, by omega, hc⟩

/-- A slice value reads as a list of polygons. -/
def RocksAt (n0 : Nat) (W : World) (v : Value) (l : List (List Pt)) : Prop :=
  l.length ≤ 70368744177663 ∧ ∃ a cap, v = .slice a l.length (l.length + cap) ∧ (l = [] ∨ ∃ b o, a = some ⟨b, o, none⟩ ∧ b < n0 ∧
    ∀ j, j < l.length → ∃ u, W.cell? ⟨b, o + j, none⟩ = some u ∧ PtsAt n0 W u (rk l j))

theorem RocksAt.below {n0 : Nat} {A B : World} (h : Below n0 A B) {v : Value} {l : List (List Pt)} (hp : RocksAt n0 A v l) : RocksAt n0 B v l := by
  obtain ⟨hl, a, cap, e, hc⟩ := hp
  refine ⟨hl, a, cap, e, hc.imp id ?_⟩
  rintro ⟨b, o, e1, hb, hc⟩
  refine ⟨b, o, e1, hb, fun j hj => ?_⟩
  obtain ⟨u, hu, hpu⟩ := hc j hj
  exact ⟨u, (h.cell (p := ⟨b, o + j, none⟩) hb).trans hu, hpu.below h⟩
theorem RocksAt.mono {n0 n1 : Nat} {W : World} {v : Value} {l : List (List Pt)} (hp : RocksAt n0 W v l) (h : n0 ≤ n1) : RocksAt n1 W v l := by
  obtain ⟨hl, a, cap, e, hc⟩ := hp
  refine ⟨hl, a, cap, e, hc.imp id ?_⟩
  rintro ⟨b, o, e1, hb, hc⟩
  refine ⟨b, o, e1, by omega, fun j hj => ?_⟩
  obtain ⟨u, hu, hpu⟩ := hc j hj
  exact ⟨u, hu, hpu.mono h⟩

/-- the cells of a mission, from its three slices -/
def msnCells (m : Msn) (vw vh vr : Value) : Array Value :=
  #[vw, vh, .int .i64 m.start, vr, .int .i64 m.speed, .int .i64 m.part, .int .i64 m.flow, .int .i64 m.idle, .int .i64 m.drive, .int .i64 m.battery, .int .i64 m.deadline]

/-- A mission's slices lie in memory. -/
def MsnAt (n0 : Nat) (W : World) (m : Msn) (vw vh vr : Value) : Prop := WaysAt n0 W vw m.ways ∧ PtsAt n0 W vh m.home ∧ RocksAt n0 W vr m.rocks
theorem MsnAt.below {n0 : Nat} {A B : World} (h : Below n0 A B) {m : Msn} {vw vh vr : Value} (hp : MsnAt n0 A m vw vh vr) : MsnAt n0 B m vw vh vr :=
  ⟨hp.1.below h, hp.2.1.below h, hp.2.2.below h⟩
theorem MsnAt.mono {n0 n1 : Nat} {W : World} {m : Msn} {vw vh vr : Value} (hp : MsnAt n0 W m vw vh vr) (h : n0 ≤ n1) : MsnAt n1 W m vw vh vr :=
  ⟨hp.1.mono h, hp.2.1.mono h, hp.2.2.mono h⟩

/-- a way is well-formed -/
def wayB (k : Nat) (a : Wy) : Bool := decide (-300000 ≤ a.x ∧ a.x ≤ 300000 ∧ -300000 ≤ a.y ∧ a.y ≤ 300000 ∧ 0 ≤ a.fix ∧ a.fix ≤ 100000 ∧ 0 ≤ a.wait ∧ a.wait ≤ 100000 ∧ (0 < a.fix ∨ a.wait = 0) ∧ 0 ≤ a.back ∧ a.back ≤ ((k - 1 : Nat) : Int))
theorem wayB_true {k : Nat} {a : Wy} (h : wayB k a = true) : -300000 ≤ a.x ∧ a.x ≤ 300000 ∧ -300000 ≤ a.y ∧ a.y ≤ 300000 ∧ 0 ≤ a.fix ∧ a.fix ≤ 100000 ∧ 0 ≤ a.wait ∧ a.wait ≤ 100000 ∧ (0 < a.fix ∨ a.wait = 0) ∧ 0 ≤ a.back ∧ a.back ≤ ((k - 1 : Nat) : Int) := by
  simpa [wayB] using h
end Go.Proofs.Ytjjkmonfihomnaa
