/- landfallref03's between and Inside. | landfallref03's least and next; landfallref04's least. (Printed by tools/mknext.py.) | landfallref03's Around .. -/
import Derived.Test.YtdkeiadpnnleoaaGreatBin13
import Derived.Test.YtdkeiadpnnleoaaGreatBin12
import Derived.Test.YtdkeiadpnnleoaaGreatBin02
import Derived.Test.YtdkeiadpnnleoaaGreatBin07
import Derived.Test.YtdkeiadpnnleoaaGreatBin00
import Derived.Test.YtdkeiadpnnleoaaGreatBin09
import Derived.Test.YtdkeiadpnnleoaaGreatBin11
import Derived.Test.YtdkeiadpnnleoaaGreatBin10
import Derived.Test.YtdkeiadpnnleoaaGreatBin06
namespace Go.Proofs.YtdkeiadpnnleoaaGreat
open Go.RowKit
attribute [local irreducible] wpQuiet
def minI (a b : Int) : Int:=if b < a then b else a
def maxI (a b : Int) : Int:=if a < b then b else a
def btwB (ax ay bx by' px py : Int) : Bool:=decide (minI ax bx ≤ px) && decide (px ≤ maxI ax bx) && decide (minI ay by' ≤ py) && decide (py ≤ maxI ay by')
set_option linter.unusedSimpArgs false in
theorem rbtw_any (ax ay bx by' px py : Int) (w : World) :
    Calls Tryz.prog 131 #[.agg #[.int .i64 ax,.int .i64 ay],.agg #[.int .i64 bx,.int .i64 by'],.agg #[.int .i64 px,.int .i64 py]] w fun e w' => e = .returned (.bool (btwB ax ay bx by' px py)) ∧ Below w.heap.size w w':=by
  unfold btwB minI maxI
  cases d1 : decide ((if bx < ax then bx else ax) ≤ px)
  · go_enter Tryz.func131,Tryz.ntmps131
    go_wp2
    all_goals (go_ret; exact ⟨rfl,by repeat (first | exact Below.refl _ _ | assumption | apply Below.drew | refine Below.setCell ?_ (by first | omega | (simp; done) | (simp; omega)) _ | refine Below.alloc ?_ (by first | omega | (simp; done) | (simp; omega)) _ | refine Below.call (by assumption) ?_ (by first | omega | (simp; done) | (simp; omega)))⟩)
  cases d2 : decide (px ≤ (if ax < bx then bx else ax))
  · go_enter Tryz.func131,Tryz.ntmps131
    go_wp2
    all_goals (go_ret; exact ⟨rfl,by repeat (first | exact Below.refl _ _ | assumption | apply Below.drew | refine Below.setCell ?_ (by first | omega | (simp; done) | (simp; omega)) _ | refine Below.alloc ?_ (by first | omega | (simp; done) | (simp; omega)) _ | refine Below.call (by assumption) ?_ (by first | omega | (simp; done) | (simp; omega)))⟩)
  cases d3 : decide ((if by' < ay then by' else ay) ≤ py)
  · go_enter Tryz.func131,Tryz.ntmps131
    go_wp2
    all_goals (go_ret; exact ⟨rfl,by repeat (first | exact Below.refl _ _ | assumption | apply Below.drew | refine Below.setCell ?_ (by first | omega | (simp; done) | (simp; omega)) _ | refine Below.alloc ?_ (by first | omega | (simp; done) | (simp; omega)) _ | refine Below.call (by assumption) ?_ (by first | omega | (simp; done) | (simp; omega)))⟩)
  cases d4 : decide (py ≤ (if ay < by' then by' else ay))
  · go_enter Tryz.func131,Tryz.ntmps131
    go_wp2
    all_goals (go_ret; exact ⟨rfl,by repeat (first | exact Below.refl _ _ | assumption | apply Below.drew | refine Below.setCell ?_ (by first | omega | (simp; done) | (simp; omega)) _ | refine Below.alloc ?_ (by first | omega | (simp; done) | (simp; omega)) _ | refine Below.call (by assumption) ?_ (by first | omega | (simp; done) | (simp; omega)))⟩)
  · go_enter Tryz.func131,Tryz.ntmps131
    go_wp2
    all_goals (go_ret; exact ⟨rfl,by repeat (first | exact Below.refl _ _ | assumption | apply Below.drew | refine Below.setCell ?_ (by first | omega | (simp; done) | (simp; omega)) _ | refine Below.alloc ?_ (by first | omega | (simp; done) | (simp; omega)) _ | refine Below.call (by assumption) ?_ (by first | omega | (simp; done) | (simp; omega)))⟩)
theorem loTo_pair (f : Pt → Int) {l : List Pt} (h : l.length = 2) : loTo f l l.length = minI (f (nth l 0)) (f (nth l 1)):=by
  rw [h]; simp only [loTo,minI,Int.lt_irrefl,if_false]
theorem hiTo_pair (f : Pt → Int) {l : List Pt} (h : l.length = 2) : hiTo f l l.length = maxI (f (nth l 0)) (f (nth l 1)):=by
  rw [h]; simp only [hiTo,maxI,Int.lt_irrefl,if_false]
theorem inside_two {l : List Pt} (h : l.length = 2) (x : Pt) : inside l x = (decide (turnV (nth l 0).x (nth l 0).y (nth l 1).x (nth l 1).y x.x x.y = 0) && btwB (nth l 0).x (nth l 0).y (nth l 1).x (nth l 1).y x.x x.y):=by
  have e1 : (boxL l).x = minI (nth l 0).x (nth l 1).x:=loTo_pair bxF1 h
  have e2 : (boxL l).y = minI (nth l 0).y (nth l 1).y:=loTo_pair bxF2 h
  have e3 : (boxH l).x = maxI (nth l 0).x (nth l 1).x:=hiTo_pair bxF1 h
  have e4 : (boxH l).y = maxI (nth l 0).y (nth l 1).y:=hiTo_pair bxF2 h
  unfold inside btwB
  rw [if_pos (by omega),h,e1,e2,e3,e4,Bool.eq_iff_iff]
  simp only [Bool.and_eq_true,decide_eq_true_eq]
  exact ⟨fun ⟨a,b,c,d,e⟩ => ⟨a,⟨⟨b,c⟩,d⟩,e⟩,fun ⟨a,⟨⟨b,c⟩,d⟩,e⟩ => ⟨a,b,c,d,e⟩⟩
theorem inside_one {l : List Pt} (h : l.length = 1) (x : Pt) : inside l x = true ↔ (nth l 0).x = x.x ∧ (nth l 0).y = x.y:=by
  have e1 : (boxL l).x = (nth l 0).x:=by show loTo bxF1 l l.length = _; rw [h]; simp [loTo,bxF1]
  have e2 : (boxL l).y = (nth l 0).y:=by show loTo bxF2 l l.length = _; rw [h]; simp [loTo,bxF2]
  have e3 : (boxH l).x = (nth l 0).x:=by show hiTo bxF1 l l.length = _; rw [h]; simp [hiTo,bxF1]
  have e4 : (boxH l).y = (nth l 0).y:=by show hiTo bxF2 l l.length = _; rw [h]; simp [hiTo,bxF2]
  unfold inside
  rw [if_pos (by omega),h,e1,e2,e3,e4,decide_eq_true_eq]
  constructor
  · rintro ⟨_,a,b,c,d⟩; omega
  · rintro ⟨a,b⟩; exact ⟨turnP_self _ _,by omega,by omega,by omega,by omega⟩
set_option linter.unusedSimpArgs false in
set_option maxRecDepth 8000 in
set_option maxHeartbeats 2000000 in
theorem rinside_any (v : Value) (l : List Pt) (x : Pt) (w : World) (hp : PtsAt w.heap.size w v l) (hl : GoValid l) (hx : placeP x = true) :
    Calls Tryz.prog 59 #[v,.agg #[.int .i64 x.x,.int .i64 x.y]] w fun e w' => e = .returned (.bool (inside l x)) ∧ Below w.heap.size w w':=by
  have hin:=hl.1
  have h64:=hl.2.1
  have hpl : ∀ k,k < l.length → placeP (nth l k) = true:=fun k hk => (hl.2.2.1 k hk).1
  obtain ⟨hll,a,cap,rfl,hc⟩:=hp
  obtain ⟨b,o,rfl,hb,hc⟩ : ∃ b o,a = some ⟨b,o,none⟩ ∧ b < w.heap.size ∧ ∀ j,j < l.length → w.cell? ⟨b,o + j * 2,none⟩ = some (.int .i64 (nth l j).x) ∧ w.cell? ⟨b,o + j * 2 + 1,none⟩ = some (.int .i64 (nth l j).y):=by
    rcases hc with rfl | h
    · simp at hin
    · exact h
  have HL:=Lib.hid hl
  have HPL:=Lib.hid hpl
  have px:=placeB_true hx
  obtain ⟨x,y⟩:=x
  simp only at px
  have hA:=(Below.refl w.heap.size w).alloc (Nat.le_refl _) (.cells #[.int .i64 x,.int .i64 y] 36)
  have hN:=Has.new w #[.int .i64 x,.int .i64 y] 36
  have n0:=Low.fact (hN.cell (i:=0) rfl)
  have n1:=Low.fact (hN.cell (i:=1) rfl)
  have cc:=fun j hj => And.intro ((hA.cell (p:=⟨b,o + j * 2,none⟩) hb).trans (hc j hj).1) ((hA.cell (p:=⟨b,o + j * 2 + 1,none⟩) hb).trans (hc j hj).2)
  have g1:=Low.fact (cc 0 (by omega)).1
  have g2:=Low.fact (cc 0 (by omega)).2
  simp only [Nat.zero_mul,Nat.add_zero] at g1 g2
  have p0:=placeB_true (HPL.out 0 (by omega))
  have CC:=Lib.hid cc
  have HA:=Lib.hid hA
  have HN:=Lib.hid hN
  have hne : ¬ l = []:=by intro h; rw [h] at hin; simp at hin
  by_cases e1 : l.length = 1
  · have d1 : ((l.length : Int) == 1) = true:=by simp [e1]
    have hi:=inside_one e1 ⟨x,y⟩
    have k1 : (0 : Int) < (l.length : Int):=by omega
    have HI:=Lib.hid hi
    clear hc hA hN cc hl hpl hx hi
    generalize (nth l 0).x = ax at *
    generalize (nth l 0).y = ay at *
    have hcase : (ax = x ∧ ay = y) ∨ (ax = x ∧ ¬ ay = y) ∨ ¬ ax = x:=by omega
    have HI2 : Hid (inside l ⟨x,y⟩ = true ↔ ax = x ∧ ay = y):=HI.out
    clear HI
    rcases hcase with ⟨rfl,rfl⟩ | ⟨rfl,h⟩ | h
    · go_enter Tryz.func59,Tryz.ntmps59
      go_wp2
      (refine wp_region_low (by kernel_rfl) (by kernel_rfl) ?_; (iterate 6 (apply quiet_want; (case hw => rfl); (case hval => (intro w1 hw1; have hcx:=Low.cells hw1; simp only [Oper.quietAt]; go_simp; first | done | (first | fail) | rfl | exact ⟨rfl,rfl⟩)); simp only [Act.put,List.setIfInBounds_toArray,List.set_cons_zero,List.set_cons_succ])); refine wpQuiet_nil ?_; intro w2 hw2)
      go_wp2
      go_ret
      exact ⟨by rw [HI2.out.2 (by simp)]; rfl,HA.out.trans (hw2.out.mono (by simp))⟩
    · have hf : inside l ⟨ax,y⟩ = false:=by
        cases h' : inside l ⟨ax,y⟩
        · rfl
        · exact absurd (HI2.out.1 h').2 h
      go_enter Tryz.func59,Tryz.ntmps59
      go_wp2
      (refine wp_region_low (by kernel_rfl) (by kernel_rfl) ?_; (iterate 6 (apply quiet_want; (case hw => rfl); (case hval => (intro w1 hw1; have hcx:=Low.cells hw1; simp only [Oper.quietAt]; go_simp; first | done | (first | fail) | rfl | exact ⟨rfl,rfl⟩)); simp only [Act.put,List.setIfInBounds_toArray,List.set_cons_zero,List.set_cons_succ])); refine wpQuiet_nil ?_; intro w2 hw2)
      go_wp2
      go_ret
      exact ⟨by rw [hf]; rfl,HA.out.trans (hw2.out.mono (by simp))⟩
    · have hf : inside l ⟨x,y⟩ = false:=by
        cases h' : inside l ⟨x,y⟩
        · rfl
        · exact absurd (HI2.out.1 h').1 h
      go_enter Tryz.func59,Tryz.ntmps59
      go_wp2
      (refine wp_region_low (by kernel_rfl) (by kernel_rfl) ?_; (iterate 6 (apply quiet_want; (case hw => rfl); (case hval => (intro w1 hw1; have hcx:=Low.cells hw1; simp only [Oper.quietAt]; go_simp; first | done | (first | fail) | rfl | exact ⟨rfl,rfl⟩)); simp only [Act.put,List.setIfInBounds_toArray,List.set_cons_zero,List.set_cons_succ])); refine wpQuiet_nil ?_; intro w2 hw2)
      go_wp2
      go_ret
      exact ⟨by rw [hf]; rfl,HA.out.trans (hw2.out.mono (by simp))⟩
  have d1 : ((l.length : Int) == 1) = false:=by rw [beq_eq_false_iff_ne]; omega
  by_cases e2 : l.length = 2
  · have d2 : ((l.length : Int) == 2) = true:=by simp [e2]
    have g3:=Low.fact (cc 1 (by omega)).1
    have g4:=Low.fact (cc 1 (by omega)).2
    simp only [Nat.one_mul] at g3 g4
    have p1:=placeB_true (HPL.out 1 (by omega))
    have hi:=inside_two e2 ⟨x,y⟩
    have k1 : (0 : Int) < (l.length : Int):=by omega
    have k2 : (1 : Int) < (l.length : Int):=by omega
    rw [hi]
    clear hc hA hN cc hl hpl hx hi
    generalize (nth l 0).x = ax at *
    generalize (nth l 0).y = ay at *
    generalize (nth l 1).x = bx at *
    generalize (nth l 1).y = by' at *
    have hcr:=fun w1 => cross_any ax ay bx by' x y w1 (by omega) (by omega) (by omega) (by omega) (by omega) (by omega) (by omega) (by omega) (by omega) (by omega) (by omega) (by omega)
    by_cases ht : turnV ax ay bx by' x y = 0
    · rw [ht] at hcr ⊢
      have dt : ((0 : Int) == 0) = true:=rfl
      clear ht
      go_enter Tryz.func59,Tryz.ntmps59
      go_wp2
      (refine wp_region_low (by kernel_rfl) (by kernel_rfl) ?_; (iterate 20 (apply quiet_want; (case hw => rfl); (case hval => (intro w1 hw1; have hcx:=Low.cells hw1; simp only [Oper.quietAt]; go_simp; first | done | (first | (go_at_call 130; exact Low.calls hw1 (hcr _)) | (go_at_call 131; exact Low.calls hw1 (rbtw_any _ _ _ _ _ _ _))) | rfl | exact ⟨rfl,rfl⟩)); simp only [Act.put,List.setIfInBounds_toArray,List.set_cons_zero,List.set_cons_succ])); refine wpQuiet_nil ?_; intro w2 hw2)
      go_wp2
      go_ret
      exact ⟨by simp,HA.out.trans (hw2.out.mono (by simp))⟩
    · have dt : (turnV ax ay bx by' x y == 0) = false:=by rw [beq_eq_false_iff_ne]; exact ht
      rw [decide_eq_false ht]
      clear ht
      generalize turnV ax ay bx by' x y = t at *
      go_enter Tryz.func59,Tryz.ntmps59
      go_wp2
      (refine wp_region_low (by kernel_rfl) (by kernel_rfl) ?_; (iterate 10 (apply quiet_want; (case hw => rfl); (case hval => (intro w1 hw1; have hcx:=Low.cells hw1; simp only [Oper.quietAt]; go_simp; first | done | (first | (go_at_call 130; exact Low.calls hw1 (hcr _)) | (go_at_call 131; exact Low.calls hw1 (rbtw_any _ _ _ _ _ _ _))) | rfl | exact ⟨rfl,rfl⟩)); simp only [Act.put,List.setIfInBounds_toArray,List.set_cons_zero,List.set_cons_succ])); (iterate 8 (apply quiet_skip; (case hw => rfl); simp only [Act.put,List.setIfInBounds_toArray,List.set_cons_zero,List.set_cons_succ])); (iterate 2 (apply quiet_want; (case hw => rfl); (case hval => (intro w1 hw1; have hcx:=Low.cells hw1; simp only [Oper.quietAt]; go_simp; first | done | (first | (go_at_call 130; exact Low.calls hw1 (hcr _)) | (go_at_call 131; exact Low.calls hw1 (rbtw_any _ _ _ _ _ _ _))) | rfl | exact ⟨rfl,rfl⟩)); simp only [Act.put,List.setIfInBounds_toArray,List.set_cons_zero,List.set_cons_succ])); refine wpQuiet_nil ?_; intro w2 hw2)
      go_wp2
      go_ret
      exact ⟨rfl,HA.out.trans (hw2.out.mono (by simp))⟩
  have d2 : ((l.length : Int) == 2) = false:=by rw [beq_eq_false_iff_ne]; omega
  have h3 : 3 ≤ l.length:=by omega
  have hiff : inside l ⟨x,y⟩ = true ↔ ∀ i,i < l.length → 0 ≤ turnP (sideP l i).1 (sideP l i).2 ⟨x,y⟩:=by unfold inside; rw [if_neg (by omega),decide_eq_true_eq]
  have HIFF:=Lib.hid hiff
  clear hc hA hN cc hl hpl hx hiff n0 n1 g1 g2 p0
  go_enter Tryz.func59,Tryz.ntmps59
  go_wp2
  go_loopw [6] (fun i wr => ∃ k : Nat,k ≤ l.length ∧ i = .int .i64 (k : Int) ∧ (∀ j,j < k → 0 ≤ turnP (sideP l j).1 (sideP l j).2 ⟨x,y⟩) ∧ Below (w.heap.size + 1) (w.alloc (.cells #[.int .i64 x,.int .i64 y] 36)) wr) (fun i _ => l.length - (intOf i).toNat)
  case atStart => exact ⟨0,by omega,rfl,fun j h => by omega,Below.refl _ _⟩
  case round =>
    obtain ⟨k,hk,rfl,hall,hB⟩:=hrel
    have HALL:=Lib.hid hall
    clear hall
    have hzr:=hB.size
    simp only [World.size_alloc] at hzr
    have hBw:=HA.out.trans (hB.mono (by omega))
    by_cases hlt : k < l.length
    · obtain ⟨m,hm⟩ : ∃ m,(k + 1) % l.length = m:=⟨_,rfl⟩
      have hmlt : m < l.length:=by rw [← hm]; exact Nat.mod_lt _ (by omega)
      have m1 : IntKind.i64.wrap ((k : Int) + 1) = (k : Int) + 1:=IntWalk.i64_in _ (by omega)
      have m2 : ((k : Int) + 1).tmod (l.length : Int) = (m : Int):=by
        have : ((k : Int) + 1).tmod (l.length : Int) = (((k + 1) % l.length : Nat) : Int):=by
          rw [Int.tmod_eq_emod_of_nonneg (by omega)]; rfl
        rw [this,hm]
      have HM:=Lib.hid hm
      have dk : decide ((k : Int) < (l.length : Int)) = true:=by simp; omega
      have pk:=placeB_true (HPL.out k hlt)
      have pm:=placeB_true (HPL.out m hmlt)
      have c1:=Low.fact ((hB.cell (p:=⟨b,o + k * 2,none⟩) (Nat.lt_succ_of_lt hb)).trans (CC.out k hlt).1)
      have c2:=Low.fact ((hB.cell (p:=⟨b,o + k * 2 + 1,none⟩) (Nat.lt_succ_of_lt hb)).trans (CC.out k hlt).2)
      have c3:=Low.fact ((hB.cell (p:=⟨b,o + m * 2,none⟩) (Nat.lt_succ_of_lt hb)).trans (CC.out m hmlt).1)
      have c4:=Low.fact ((hB.cell (p:=⟨b,o + m * 2 + 1,none⟩) (Nat.lt_succ_of_lt hb)).trans (CC.out m hmlt).2)
      have N:=HN.out.below hB (by omega)
      have n0:=Low.fact (N.cell (i:=0) rfl)
      have n1:=Low.fact (N.cell (i:=1) rfl)
      have kl : (k : Int) < l.length:=by omega
      have k0 : (0 : Int) ≤ k:=by omega
      have ml : (m : Int) < l.length:=by omega
      have m0 : (0 : Int) ≤ m:=by omega
      have hs : Hid ((sideP l k).1 = nth l k ∧ (sideP l k).2 = nth l m):=⟨rfl,by show nth l ((k + 1) % l.length) = _; rw [HM.out]⟩
      have HB:=Lib.hid hB
      clear hm hB N
      have hcr:=fun w1 => cross_any (nth l k).x (nth l k).y (nth l m).x (nth l m).y x y w1 (by omega) (by omega) (by omega) (by omega) (by omega) (by omega) (by omega) (by omega) (by omega) (by omega) (by omega) (by omega)
      have htv : Hid (turnP (sideP l k).1 (sideP l k).2 ⟨x,y⟩ = turnV (nth l k).x (nth l k).y (nth l m).x (nth l m).y x y):=by show _ = _; rw [hs.out.1,hs.out.2]; rfl
      clear pk pm
      generalize (nth l k).x = ax at *
      generalize (nth l k).y = ay at *
      generalize (nth l m).x = bx at *
      generalize (nth l m).y = by' at *
      by_cases ht : turnV ax ay bx by' x y < 0
      · have dt : decide (turnV ax ay bx by' x y < 0) = true:=by simpa using ht
        have hf : inside l ⟨x,y⟩ = false:=by
          cases h' : inside l ⟨x,y⟩
          · rfl
          · have:=HIFF.out.1 h' k hlt
            rw [htv.out] at this; omega
        have HF:=Lib.hid hf
        clear ht hf htv
        generalize turnV ax ay bx by' x y = t at *
        go_wp2
        (refine wp_region_low (by kernel_rfl) (by kernel_rfl) ?_; (iterate 14 (apply quiet_want; (case hw => rfl); (case hval => (intro w1 hw1; have hcx:=Low.cells hw1; simp only [Oper.quietAt]; go_simp; first | done | (first | (go_at_call 130; exact Low.calls hw1 (hcr _))) | rfl | exact ⟨rfl,rfl⟩)); simp only [Act.put,List.setIfInBounds_toArray,List.set_cons_zero,List.set_cons_succ])); refine wpQuiet_nil ?_; intro w2 hw2)
        go_wp2
        go_ret
        exact ⟨by rw [HF.out]; rfl,hBw.trans (hw2.out.mono (by omega))⟩
      · have dt : decide (turnV ax ay bx by' x y < 0) = false:=by simpa using ht
        have HALL2 : Hid (∀ j,j < k + 1 → 0 ≤ turnP (sideP l j).1 (sideP l j).2 ⟨x,y⟩):=fun j hj => by
          by_cases e : j = k
          · rw [e,htv.out]; omega
          · exact HALL.out j (by omega)
        clear ht htv
        generalize turnV ax ay bx by' x y = t at *
        go_wp2
        (refine wp_region_low (by kernel_rfl) (by kernel_rfl) ?_; (iterate 14 (apply quiet_want; (case hw => rfl); (case hval => (intro w1 hw1; have hcx:=Low.cells hw1; simp only [Oper.quietAt]; go_simp; first | done | (first | (go_at_call 130; exact Low.calls hw1 (hcr _))) | rfl | exact ⟨rfl,rfl⟩)); simp only [Act.put,List.setIfInBounds_toArray,List.set_cons_zero,List.set_cons_succ])); refine wpQuiet_nil ?_; intro w2 hw2)
        go_wp2
        go_roundw
        case rel => exact ⟨k + 1,by omega,by go_num,HALL2.out,HB.out.trans (hw2.out.mono (by omega))⟩
        case measure => simp [intOf]; omega
    · obtain rfl : k = l.length:=by omega
      have dk : decide ((l.length : Int) < (l.length : Int)) = false:=by simp
      have HF:=Lib.hid (HIFF.out.2 HALL.out)
      clear hB
      go_wp2
      go_ret
      exact ⟨by rw [HF.out]; rfl,hBw⟩
end Go.Proofs.YtdkeiadpnnleoaaGreat
namespace Go.Proofs.YtdkeiadpnnleoaaGreat
open Go.RowKit
attribute [local irreducible] wpQuiet
def NS (n b o : Nat) (sx sy tx ty px py : Int) (w W : World) : Prop:=b < n ∧ w.heap.size = n ∧ Has W n #[.int .i64 sx,.int .i64 sy] 36 ∧ Has W (n + 1) #[.int .i64 0,.int .i64 0] 36 ∧ Has W (n + 2) #[.int .i64 tx,.int .i64 ty] 36 ∧ Below n w W ∧ W.cell? ⟨b,o,none⟩ = some (.int .i64 px) ∧ W.cell? ⟨b,o + 1,none⟩ = some (.int .i64 py)
theorem NS.below {n b o : Nat} {sx sy tx ty px py : Int} {w W W' : World} (h : NS n b o sx sy tx ty px py w W) (hb : Below W.heap.size W W') : NS n b o sx sy tx ty px py w W':=by
  obtain ⟨h0,hn,h1,h2,h3,h4,h5,h6⟩:=h
  have l3:=h3.lt
  exact ⟨h0,hn,h1.below hb (by omega),h2.below hb (by omega),h3.below hb (by omega),h4.trans (hb.mono (by omega)),(hb.cell (p:=⟨b,o,none⟩) (by show b < _; omega)).trans h5,(hb.cell (p:=⟨b,o + 1,none⟩) (by show b < _; omega)).trans h6⟩
end Go.Proofs.YtdkeiadpnnleoaaGreat
namespace Go.Proofs.YtdkeiadpnnleoaaGreat
open Go.RowKit
attribute [local irreducible] wpQuiet
def lenOf : Value → Nat
  | .slice _ n _ => n
  | _ => 0
theorem Has.kept {W W' : World} {B : Nat} {cs : Array Value} {t : TypeId} {row : Option Nat} (h : Has W B cs t) (hg : W.grownBy W' row) (hne : row ≠ some B) : Has W' B cs t :=
  (hg.block B h.lt (fun e => hne e.symm)).trans h
theorem row_pos {W : World} {base k size : Nat} {e : TypeId} {v : Value} {xs : List Value} (h : W.ownsRow base e size v k xs) : lenOf v = k:=by
  rcases h.2 with ⟨rfl,h0⟩ | ⟨g,cap,cur,rfl,_⟩
  · exact h0.symm
  · rfl
end Go.Proofs.YtdkeiadpnnleoaaGreat
namespace Go.Proofs.YtdkeiadpnnleoaaGreat
open Go.RowKit
attribute [local irreducible] wpQuiet
structure CS (A B : Nat) (ax ay bx by' : Int) (xs : List Pt) (out : Value) (w W : World) : Prop where
  hA : w.heap.size ≤ A ∧ A < W.heap.size
  hB : w.heap.size ≤ B ∧ B < W.heap.size
  nA : out.ownBlock ≠ some A
  nB : out.ownBlock ≠ some B
  gA : Has W A #[.int .i64 ax,.int .i64 ay] 36
  gB : Has W B #[.int .i64 bx,.int .i64 by'] 36
  row : W.ownsRow w.heap.size 36 2 out xs.length (ptCells xs)
  bel : Below w.heap.size w W
theorem CS.below {A B : Nat} {ax ay bx by' : Int} {xs : List Pt} {out : Value} {w W W' : World} (h : CS A B ax ay bx by' xs out w W) (hb : Below W.heap.size W W') : CS A B ax ay bx by' xs out w W' :=
  ⟨⟨h.hA.1,Nat.lt_of_lt_of_le h.hA.2 hb.size⟩,⟨h.hB.1,Nat.lt_of_lt_of_le h.hB.2 hb.size⟩,h.nA,h.nB,h.gA.below hb h.hA.2,h.gB.below hb h.hB.2,prow_below h.row hb,h.bel.trans (hb.mono h.bel.size)⟩
theorem CS.app {A B : Nat} {ax ay bx by' : Int} {xs ys : List Pt} {out out' : Value} {w W W' : World} (h : CS A B ax ay bx by' xs out w W) (hr : W'.ownsRow w.heap.size 36 2 out' (xs.length + ys.length) (ptCells xs ++ ptCells ys)) (hg : W.grownBy W' out.ownBlock) (ho : out'.ownBlock = out.ownBlock ∨ out'.ownBlock = some W.heap.size) : CS A B ax ay bx by' (xs ++ ys) out' w W':=by
  have hz:=hg.size
  refine ⟨⟨h.hA.1,by have:=h.hA.2; omega⟩,⟨h.hB.1,by have:=h.hB.2; omega⟩,?_,?_,h.gA.kept hg h.nA,h.gB.kept hg h.nB,by rw [List.length_append,ptCells_append]; exact hr,h.bel.trans ((Below.refl w.heap.size W).grown hg h.bel.size fun j ej => (h.row.lt j ej).1)⟩
  · rcases ho with e | e
    · rw [e]; exact h.nA
    · rw [e]; intro e'; cases e'; exact absurd h.hA.2 (Nat.lt_irrefl _)
  · rcases ho with e | e
    · rw [e]; exact h.nB
    · rw [e]; intro e'; cases e'; exact absurd h.hB.2 (Nat.lt_irrefl _)
structure DS (C D : Nat) (cx cy dx dy : Int) (W : World) : Prop where
  gC : Has W C #[.int .i64 cx,.int .i64 cy] 36
  gD : Has W D #[.int .i64 dx,.int .i64 dy] 36
theorem DS.below {C D : Nat} {cx cy dx dy : Int} {W W' : World} (h : DS C D cx cy dx dy W) (hb : Below W.heap.size W W') : DS C D cx cy dx dy W':=⟨h.gC.below hb h.gC.lt,h.gD.below hb h.gD.lt⟩
end Go.Proofs.YtdkeiadpnnleoaaGreat
namespace Go.Proofs.YtdkeiadpnnleoaaGreat
open Go.RowKit
attribute [local irreducible] wpQuiet
theorem cornersTo_all {l m : List Pt} : ∀ k,(cornersTo l m k).length = k → ∀ j,j < k → hasB m (nth l j) = true
  | 0,_,j,hj => by omega
  | k + 1, h, j, hj => by
    have hl:=cornersTo_len l m k
    simp only [cornersTo] at h
    split at h
    · rename_i hb
      simp only [List.length_append,List.length_singleton] at h
      by_cases e : j = k
      · rw [e]; exact hb
      · exact cornersTo_all k (by omega) j (by omega)
    · omega
end Go.Proofs.YtdkeiadpnnleoaaGreat
namespace Go.Proofs.YtdkeiadpnnleoaaGreat
open Go.RowKit
attribute [local irreducible] wpQuiet
def RS (n : Nat) (w W : World) : Prop:=Has W n #[.int .i64 0,.int .i64 0] 36 ∧ Below n w W
theorem RS.below {n : Nat} {w W W' : World} (h : RS n w W) (hb : Below W.heap.size W W') : RS n w W' :=
  ⟨h.1.below hb h.1.lt,h.2.trans (hb.mono (Nat.le_of_lt h.1.lt))⟩
end Go.Proofs.YtdkeiadpnnleoaaGreat
namespace Go.Proofs.YtdkeiadpnnleoaaGreat
open Go.RowKit
attribute [local irreducible] wpQuiet
theorem plus_any (p q : Pt) (w : World) (hp : placeP p = true) (hq : placeP q = true) :
    Calls Tryz.prog 148 #[.agg #[.int .i64 p.x,.int .i64 p.y],.agg #[.int .i64 q.x,.int .i64 q.y]] w fun e w' => e = .returned (.agg #[.int .i64 (mvP q p).x,.int .i64 (mvP q p).y]) ∧ Below w.heap.size w w':=by
  rw [place_iff] at hp hq
  obtain ⟨px,py⟩:=p
  obtain ⟨qx,qy⟩:=q
  simp only at hp hq
  show Calls _ _ _ _ fun e w' => e = .returned (.agg #[.int .i64 (px + qx),.int .i64 (py + qy)]) ∧ _
  have m1 : IntKind.i64.wrap (px + qx) = px + qx:=IntWalk.i64_in _ (by omega)
  have m2 : IntKind.i64.wrap (py + qy) = py + qy:=IntWalk.i64_in _ (by omega)
  clear hp hq
  go_enter Tryz.func148,Tryz.ntmps148
  go_wp2
  refine bodyPost_ret (v:=.agg #[.int .i64 (px + qx),.int .i64 (py + qy)]) (by simp [results,Tryz.f148,go_sem]) rfl ⟨rfl,?_⟩
  repeat (first | exact Below.refl _ _ | assumption | apply Below.drew | refine Below.setCell ?_ (by first | omega | (simp; done) | (simp; omega)) _ | refine Below.alloc ?_ (by first | omega | (simp; done) | (simp; omega)) _ | refine Below.call (by assumption) ?_ (by first | omega | (simp; done) | (simp; omega)))
theorem shift1_any (Bd : Nat) (x d : Pt) (w : World) (hx : placeP x = true) (hd : placeP d = true) (HD : Has w Bd #[.int .i64 d.x,.int .i64 d.y] 36) :
    Calls Tryz.prog 147 #[.agg #[.int .i64 x.x,.int .i64 x.y],.pointer (some ⟨Bd,0,none⟩)] w fun e w' => e = .returned (.agg #[.int .i64 (mvP d x).x,.int .i64 (mvP d x).y]) ∧ Below w.heap.size w w':=by
  have f:=Lib.hid (fun w1 => plus_any x d w1 hx hd)
  have hlt:=HD.lt
  have c0:=HD.cell (i:=0) rfl
  have c1:=HD.cell (i:=1) rfl
  have H:=Has.new (w.alloc (.cells #[.int .i64 x.x,.int .i64 x.y] 36)) #[.int .i64 0,.int .i64 0] 36
  rw [show (w.alloc (.cells #[.int .i64 x.x,.int .i64 x.y] 36)).heap.size = w.heap.size + 1 by simp] at H
  have H:=Lib.hid H
  have B0:=Lib.hid (show Below w.heap.size w ((w.alloc (.cells #[.int .i64 x.x,.int .i64 x.y] 36)).alloc (.cells #[.int .i64 0,.int .i64 0] 36)) from ((Below.refl _ _).alloc (Nat.le_refl _) _).alloc (by first | omega | (simp; done) | (simp; omega)) _)
  generalize mvP d x = r at *
  clear HD hx hd
  go_enter Tryz.func147,Tryz.ntmps147
  go_wp2_with fail
  refine (f.out _).mono ?_
  rintro e w1 ⟨rfl,hb1⟩
  have H1:=H.out.below hb1 (by simp)
  have x0:=cells_cell H1 (i:=0) rfl
  have x1:=cells_cell H1 (i:=1) rfl
  have y0:=cells_free H1 0
  have y1:=cells_free H1 1
  have z0:=cells_cell (H1.set 0 (.int .i64 r.x)) (i:=0) rfl
  have z1:=cells_cell ((H1.set 0 (.int .i64 r.x)).set 1 (.int .i64 r.y)) (i:=1) rfl
  have B1:=Lib.hid (B0.out.trans (hb1.mono B0.out.size))
  clear hb1 H1 c0 c1
  go_wp2
  refine bodyPost_ret (v:=.agg #[.int .i64 r.x,.int .i64 r.y]) (by simp [results,Tryz.f147,go_sem,z0,z1]) rfl ⟨rfl,?_⟩
  exact (B1.out.setCell (p:=⟨w.heap.size + 1,0,none⟩) (by simp) _).setCell (p:=⟨w.heap.size + 1,1,none⟩) (by simp) _
theorem mvL_take2 (d : Pt) (l : List Pt) {k : Nat} (h : k < l.length) : mvL d (l.take (k + 1)) = mvL d (l.take k) ++ [mvP d (nth l k)]:=by
  have e : nth l k = l[k]:=by simp [nth,List.getD_eq_getElem?_getD,List.getElem?_eq_getElem h]
  unfold mvL
  rw [List.take_add_one,List.getElem?_eq_getElem h,List.map_append,e]
  rfl
set_option maxRecDepth 8000 in
set_option maxHeartbeats 1600000 in
theorem each_any (v : Value) (l : List Pt) (Bd : Nat) (d : Pt) (w : World) (hp : PtsAt w.heap.size w v l) (HD : Has w Bd #[.int .i64 d.x, .int .i64 d.y] 36) (hs : l.length ≤ 64) (hpl : ∀ k, k < l.length → placeP (nth l k) = true) (hd : placeP d = true) :
    Calls Tryz.prog 146 #[v,.func (.func 147) #[] #[.pointer (some ⟨Bd,0,none⟩)]] w (PtsQ (mvL d l) w):=by
  obtain ⟨hll,a,cap,rfl,hc⟩:=hp
  have HC:=Lib.hid hc
  have HPL:=Lib.hid hpl
  have HDD:=Lib.hid HD
  have HDP:=Lib.hid hd
  obtain ⟨i0,hi,hz0',hz1',hz2'⟩:=info_parts ptInfo
  clear hc hpl hd HD
  go_enter Tryz.func146,Tryz.ntmps146
  go_wp2
  go_loopw [5,10] (fun v i wr => ∃ k : Nat,k ≤ l.length ∧ i = .int .i64 (k : Int) ∧ wr.ownsRow w.heap.size 36 2 v k (ptCells (mvL d (l.take k))) ∧ Below w.heap.size w wr) (fun _ i _ => l.length - (intOf i).toNat)
  case atStart => exact ⟨0,by omega,rfl,World.ownsRow_nil _ _ _ _,Below.refl _ _⟩
  case round =>
    obtain ⟨k,hk,rfl,hrow,hB⟩:=hrel
    have hzB:=hB.size
    by_cases hlt : k < l.length
    · obtain ⟨b,o,rfl,hb,hcc⟩ : ∃ b o,a = some ⟨b,o,none⟩ ∧ b < w.heap.size ∧ ∀ j,j < l.length → w.cell? ⟨b,o + j * 2,none⟩ = some (.int .i64 (nth l j).x) ∧ w.cell? ⟨b,o + j * 2 + 1,none⟩ = some (.int .i64 (nth l j).y):=by
        rcases HC.out with h | h
        · rw [h] at hlt; simp at hlt
        · exact h
      obtain ⟨q0,q1⟩:=hcc k hlt
      have c0:=(hB.cell (p:=⟨b,o + k * 2,none⟩) hb).trans q0
      have c1:=(hB.cell (p:=⟨b,o + k * 2 + 1,none⟩) hb).trans q1
      have hst:=Lib.hid (mvL_take2 d l hlt)
      have f:=Lib.hid (fun w1 (B : Below w.heap.size w w1) => shift1_any Bd (nth l k) d w1 (HPL.out k hlt) HDP.out (HDD.out.below B HDD.out.lt))
      generalize mvP d (nth l k) = r at *
      generalize (nth l k).x = px at *
      generalize (nth l k).y = py at *
      have kl : (k : Int) < l.length:=by omega
      have k0 : (0 : Int) ≤ k:=by omega
      have dk : decide ((k : Int) < (l.length : Int)) = true:=by simp; omega
      have HR:=Lib.hid hrow
      have HB:=Lib.hid hB
      have BA:=Lib.hid (show Below wr.heap.size wr (wr.alloc (.cells #[.int .i64 px,.int .i64 py] 36)) from (Below.refl _ _).alloc (Nat.le_refl _) _)
      clear hcc q0 q1 hrow hB
      go_wp2_with fail
      refine (f.out _ (HB.out.trans (BA.out.mono HB.out.size))).mono ?_
      rintro e w2 ⟨rfl,b2⟩
      have B2:=Lib.hid (BA.out.trans (b2.mono BA.out.size))
      have R2:=Lib.hid (prow_below HR.out B2.out)
      have z2:=B2.out.size
      clear b2
      go_wp2_with (at_builtin; refine wpList_append_own _ rfl _ _ 23 rfl w.heap.size 36 i0 (.agg #[.int .i64 0,.int .i64 0]) 2 16 Tryz.underlying23 hi hz0' hz1' hz2' rfl (by decide) _ _ _ rfl (R2.out.alloc _) ⟨w2.heap.size,0,none⟩ 1 1 [.int .i64 r.x,.int .i64 r.y] rfl rfl (pt_new _ _ _) (by simp [Value.oneCell']) (by unfold maxLen; omega) (by omega) (by simp; omega) ?_; intro v' w4 hown' hgrow _)
      go_roundw
      case rel =>
        have A2:=(Below.refl w2.heap.size w2).alloc (Nat.le_refl _) (.cells #[.int .i64 r.x,.int .i64 r.y] 36)
        have b4 : Below w.heap.size w w4:=(HB.out.trans ((B2.out.trans (A2.mono z2)).mono hzB)).grown hgrow (by simp; omega) (fun j ej => (R2.out.lt j ej).1)
        refine ⟨k + 1,by omega,by go_num,?_,b4⟩
        rw [hst.out,ptCells_append]
        exact hown'
      case measure => simp [intOf]; omega
    · obtain rfl : k = l.length:=by omega
      have dk : decide ((l.length : Int) < (l.length : Int)) = false:=by simp
      rw [List.take_length] at hrow
      have P:=Lib.hid (PtsAt.own hrow (by rw [mvL_len]; omega))
      have HB:=Lib.hid hB
      clear hrow hB
      go_wp2
      go_ret
      exact ⟨_,rfl,P.out,HB.out⟩
end Go.Proofs.YtdkeiadpnnleoaaGreat
