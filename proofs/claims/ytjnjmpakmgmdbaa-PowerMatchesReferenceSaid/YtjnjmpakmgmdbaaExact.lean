/- Contracts of package exact (the functions below the laws of layer 1). -/
import Derived.Test.YtjnjmpakmgmdbaaBase
import Derived.Test.YtjnjmpakmgmdbaaPlain
namespace Go.Proofs.Ytjnjmpakmgmdbaa
open Go.RowKit

theorem isWide_yes (n : Int) (w : World) (h1 : -1000000000000 ≤ n) (h2 : n ≤ 1000000000000) :
    Calls Try.prog 103 #[.int .i64 n] w fun e w' => e = .returned (.bool true) ∧ w = w' := by
  go_enter Try.func103, Try.ntmps103
  go_wp2
  go_ret
  exact ⟨rfl, rfl⟩
theorem isWide_no (n : Int) (w : World) (h : n < -1000000000000 ∨ 1000000000000 < n) :
    Calls Try.prog 103 #[.int .i64 n] w fun e w' => e = .returned (.bool false) ∧ w = w' := by
  rcases h with h | h
  · have hd : decide (-1000000000000 ≤ n) = false := by simp; omega
    go_enter Try.func103, Try.ntmps103
    go_wp2
    go_ret
    exact ⟨rfl, rfl⟩
  · have hd1 : decide (-1000000000000 ≤ n) = true := by simp; omega
    have hd : decide (n ≤ 1000000000000) = false := by simp; omega
    go_enter Try.func103, Try.ntmps103
    go_wp2
    go_ret
    exact ⟨rfl, rfl⟩
theorem isWide_any (n : Int) (w : World) :
    Calls Try.prog 103 #[.int .i64 n] w fun e w' => e = .returned (.bool (wideB n)) ∧ w = w' := by
  cases h : wideB n
  · exact isWide_no n w (wideB_false h)
  · exact isWide_yes n w (wideB_true h).1 (wideB_true h).2
theorem divide_walk (a b q r q' r' : Int) (w : World) (hq : IntKind.i64.wrap (a.tdiv b) = q) (hr : a.tmod b = r) (h5 : ¬ b = 0)
    (q1 : -1000000000000000000 ≤ q) (q2 : q ≤ 1000000000000000000) (r1 : -1000000000000 < r) (r2 : r < 1000000000000) (h3 : -1000000000000 ≤ b) (h4 : b ≤ 1000000000000)
    (hc : (r = 0 ∨ (r < 0 ∧ b < 0) ∨ (0 < r ∧ 0 < b)) ∧ q = q' ∧ r = r' ∨ ((r < 0 ∧ 0 < b) ∨ (0 < r ∧ b < 0)) ∧ q - 1 = q' ∧ r + b = r') :
    Calls Try.prog 104 #[.int .i64 a, .int .i64 b] w fun e w' => e = .returned (.agg #[.int .i64 q', .int .i64 r']) ∧ Below w.heap.size w w' := by
  rcases hc with ⟨h | ⟨ha, hb⟩ | ⟨ha, hb⟩, e1, e2⟩ | ⟨⟨ha, hb⟩ | ⟨ha, hb⟩, e1, e2⟩
  · subst h e1 e2
    go_enter Try.func104, Try.ntmps104
    go_wp2
    go_region
    all_goals go_wp2
    exact bodyPost_ret (v := .agg #[.int .i64 _, .int .i64 _]) (by simp [results, Try.results104, go_sem]) rfl ⟨rfl, by repeat (first | exact Below.refl _ _ | assumption | apply Below.drew | refine Below.setCell ?_ (by first | omega | (simp; done) | (simp; omega)) _ | refine Below.alloc ?_ (by first | omega | (simp; done) | (simp; omega)) _ | refine Below.call (by assumption) ?_ (by first | omega | (simp; done) | (simp; omega)))⟩
  · subst e1 e2
    have d1 : (r != 0) = true := by rw [bne_iff_ne]; omega
    have d2 : decide (r < 0) = true := by simp; omega
    have d3 : decide (b < 0) = true := by simp; omega
    go_enter Try.func104, Try.ntmps104
    go_wp2
    go_region
    all_goals go_wp2
    exact bodyPost_ret (v := .agg #[.int .i64 _, .int .i64 _]) (by simp [results, Try.results104, go_sem]) rfl ⟨rfl, by repeat (first | exact Below.refl _ _ | assumption | apply Below.drew | refine Below.setCell ?_ (by first | omega | (simp; done) | (simp; omega)) _ | refine Below.alloc ?_ (by first | omega | (simp; done) | (simp; omega)) _ | refine Below.call (by assumption) ?_ (by first | omega | (simp; done) | (simp; omega)))⟩
  · subst e1 e2
    have d1 : (r != 0) = true := by rw [bne_iff_ne]; omega
    have d2 : decide (r < 0) = false := by simp; omega
    have d3 : decide (b < 0) = false := by simp; omega
    go_enter Try.func104, Try.ntmps104
    go_wp2
    go_region
    all_goals go_wp2
    exact bodyPost_ret (v := .agg #[.int .i64 _, .int .i64 _]) (by simp [results, Try.results104, go_sem]) rfl ⟨rfl, by repeat (first | exact Below.refl _ _ | assumption | apply Below.drew | refine Below.setCell ?_ (by first | omega | (simp; done) | (simp; omega)) _ | refine Below.alloc ?_ (by first | omega | (simp; done) | (simp; omega)) _ | refine Below.call (by assumption) ?_ (by first | omega | (simp; done) | (simp; omega)))⟩
  · subst e1 e2
    have d1 : (r != 0) = true := by rw [bne_iff_ne]; omega
    have d2 : decide (r < 0) = true := by simp; omega
    have d3 : decide (b < 0) = false := by simp; omega
    go_enter Try.func104, Try.ntmps104
    go_wp2
    go_region
    all_goals go_wp2
    exact bodyPost_ret (v := .agg #[.int .i64 _, .int .i64 _]) (by simp [results, Try.results104, go_sem]) rfl ⟨rfl, by repeat (first | exact Below.refl _ _ | assumption | apply Below.drew | refine Below.setCell ?_ (by first | omega | (simp; done) | (simp; omega)) _ | refine Below.alloc ?_ (by first | omega | (simp; done) | (simp; omega)) _ | refine Below.call (by assumption) ?_ (by first | omega | (simp; done) | (simp; omega)))⟩
  · subst e1 e2
    have d1 : (r != 0) = true := by rw [bne_iff_ne]; omega
    have d2 : decide (r < 0) = false := by simp; omega
    have d3 : decide (b < 0) = true := by simp; omega
    go_enter Try.func104, Try.ntmps104
    go_wp2
    go_region
    all_goals go_wp2
    exact bodyPost_ret (v := .agg #[.int .i64 _, .int .i64 _]) (by simp [results, Try.results104, go_sem]) rfl ⟨rfl, by repeat (first | exact Below.refl _ _ | assumption | apply Below.drew | refine Below.setCell ?_ (by first | omega | (simp; done) | (simp; omega)) _ | refine Below.alloc ?_ (by first | omega | (simp; done) | (simp; omega)) _ | refine Below.call (by assumption) ?_ (by first | omega | (simp; done) | (simp; omega)))⟩
end Go.Proofs.Ytjnjmpakmgmdbaa
