/- package rocks: First, Hit. | Plain: what Has, Common, First and Hit say of one another. | Plain geometry: polygons that have a point in common touc .. -/
import Derived.WalkMore
import Derived.Test.YtdkeiadpnnleoaaGreatBin11
import Derived.Test.YtdkeiadpnnleoaaGreatBin00
import Derived.Test.YtdkeiadpnnleoaaGreatBin12
import Derived.Deep.CutRange
namespace Go.Proofs.YtdkeiadpnnleoaaGreat
open Go.RowKit
attribute [local irreducible] wpQuiet
noncomputable def hitTo (c : List Pt) (ls : List (List Pt)) : Nat → Option Nat
  | 0 => none
  | k + 1 => if (hitTo c ls k).isSome = true then hitTo c ls k else if touchB c (rk ls k) = true then some k else none
def natO (o : Option Nat) : Int:=match o with | some k => k | none => 0
open Classical in
noncomputable def okRocks (c : List Pt) (ls : List (List Pt)) : Bool:=goValid c && decide (∀ j,j < ls.length → goValid (rk ls j) = true)
noncomputable def firI (c : List Pt) (ls : List (List Pt)) : Int:=if ls.length ≤ 100 ∧ okRocks c ls = true then natO (hitTo c ls ls.length) else 0
noncomputable def firB (c : List Pt) (ls : List (List Pt)) : Bool:=if ls.length ≤ 100 ∧ okRocks c ls = true then (hitTo c ls ls.length).isSome else false
noncomputable def firE (c : List Pt) (ls : List (List Pt)) : Int:=if ls.length ≤ 100 then (if okRocks c ls = true then 0 else 1) else 2
theorem fir_bad {c : List Pt} {ls : List (List Pt)} (h : ls.length ≤ 100) (hk : okRocks c ls = false) : firI c ls = 0 ∧ firB c ls = false ∧ firE c ls = 1:=by
  unfold firI firB firE
  simp [h,hk]
set_option linter.unusedSimpArgs false in
set_option maxRecDepth 4000 in
set_option maxHeartbeats 1600000 in
theorem first_any (vc vr : Value) (c : List Pt) (ls : List (List Pt)) (w : World) (hc : PtsAt w.heap.size w vc c) (hr : RocksAt w.heap.size w vr ls) :
    Calls Tryz.prog 96 #[vc,vr] w fun e w' => e = .returned (.tuple #[.int .i64 (firI c ls),.bool (firB c ls),.int .i64 (firE c ls)]) ∧ Below w.heap.size w w':=by
  obtain ⟨_,ar,capr,rfl,hrc⟩:=hr
  by_cases hbig : 100 < ls.length
  · have d1 : decide ((ls.length : Int) > 100) = true:=by rw [decide_eq_true_eq]; omega
    have HR:=Lib.hid (show firI c ls = 0 ∧ firB c ls = false ∧ firE c ls = 2 by unfold firI firB firE; simp [show ¬ ls.length ≤ 100 by omega])
    obtain ⟨ap,capp,rfl⟩:=hc.len
    clear hbig hrc hc
    go_enter Tryz.func96,Tryz.ntmps96
    go_wp2
    go_step3
    go_wp2
    (try rw [Exit.noGoto_ret]); go_ret3
    exact ⟨by rw [HR.out.1,HR.out.2.1,HR.out.2.2]; rfl,Below.refl _ _⟩
  · have d1 : decide ((ls.length : Int) > 100) = false := by rw [decide_eq_false_iff_not]; omega
    have hle : ls.length ≤ 100:=by omega
    have f1:=Lib.hid (fun w1 (B : Below w.heap.size w w1) => touching_any vc c w1 ((hc.below B).mono B.size))
    have f2:=Lib.hid (fun w1 (B : Below w.heap.size w w1) => hullValid_any vc c w1 ((hc.below B).mono B.size))
    have HP:=Lib.hid hc
    obtain ⟨ap,capp,rfl⟩:=hc.len
    have HRC:=Lib.hid hrc
    have hA:=(Below.refl w.heap.size w).alloc (Nat.le_refl _) (.cells #[.slice ap c.length (c.length + capp)] 23)
    have hN:=Lib.hid (Has.new w #[.slice ap c.length (c.length + capp)] 23)
    have HA:=Lib.hid hA
    have hs0 : w.heap.size < (w.alloc (.cells #[.slice ap c.length (c.length + capp)] 23)).heap.size:=by simp
    obtain ⟨gc,hgc⟩ : ∃ g,goValid c = g:=⟨_,rfl⟩
    rw [hgc] at f2
    have HGC:=Lib.hid hgc
    clear hbig hrc hc hA hgc
    go_enter Tryz.func96,Tryz.ntmps96
    go_wp2
    go_step3
    go_wp2_with fail
    refine (f1.out _ (Below.refl _ _)).mono ?_
    rintro e w1 ⟨rfl,rfl⟩
    go_wp2_with fail
    refine (f2.out _ HA.out).mono ?_
    rintro e w2 ⟨rfl,hb2⟩
    have G2:=Lib.hid (hN.out.below hb2 hs0)
    have B2:=Lib.hid (HA.out.trans (hb2.mono HA.out.size))
    have hs2:=G2.out.lt
    clear hb2
    go_wp2
    go_step3
    go_wp2
    go_loopw [8,9,10,22] (fun x y r i wr => ∃ k : Nat,k ≤ ls.length ∧ i = .int .i64 (k : Int) ∧ r = .bool gc ∧ x = .int .i64 (natO (hitTo c ls k)) ∧ y = .bool (hitTo c ls k).isSome ∧ (∀ j,j < k → goValid (rk ls j) = true) ∧ Below w2.heap.size w2 wr) (fun _ _ _ i _ => ls.length - (intOf i).toNat)
    case atStart => exact ⟨0,by omega,rfl,rfl,rfl,rfl,fun j h => by omega,Below.refl _ _⟩
    case round =>
      obtain ⟨k,hk,rfl,rfl,rfl,rfl,hall,hB⟩:=hrel
      have BB:=B2.out.trans (hB.mono B2.out.size)
      have G:=G2.out.below hB hs2
      have hzr:=hB.size
      have HALL:=Lib.hid hall
      clear hall
      by_cases hlt : k < ls.length
      · obtain ⟨b, o, rfl, hb, hcc⟩ : ∃ b o, ar = some ⟨b, o, none⟩ ∧ b < w.heap.size ∧ ∀ j, j < ls.length → ∃ u, w.cell? ⟨b, o + j, none⟩ = some u ∧ PtsAt w.heap.size w u (rk ls j) := by
          rcases HRC.out with h | h
          · rw [h] at hlt; simp at hlt
          · exact h
        obtain ⟨u,hu,hpu⟩:=hcc k hlt
        have e0:=(BB.cell (p:=⟨b,o + k,none⟩) hb).trans hu
        have hpz:=(hpu.below BB).mono BB.size
        have hv:=Lib.hid (hullValid_any u (rk ls k) wr hpz)
        have hcw:=G.cell (i:=0) rfl
        have hst : Hid (hitTo c ls (k + 1) = if (hitTo c ls k).isSome = true then hitTo c ls k else if touchB c (rk ls k) = true then some k else none):=rfl
        obtain ⟨au,cu,rfl⟩:=hpu.len
        have dk : decide ((k : Int) < (ls.length : Int)) = true:=by simp; omega
        have kl : (k : Int) < ls.length:=by omega
        have k0 : (0 : Int) ≤ k:=by omega
        have HB:=Lib.hid hB
        have HBB:=Lib.hid BB
        have HG:=Lib.hid G
        have HPZ:=Lib.hid hpz
        have HPC:=Lib.hid ((HP.out.below BB).mono BB.size)
        clear hcc hu hpu hB BB G hpz hcw
        generalize hht : hitTo c ls k = ht at *
        cases hg : goValid (rk ls k)
        · have HR:=Lib.hid (fir_bad hle (show okRocks c ls = false by
            unfold okRocks
            rw [Bool.and_eq_false_iff]
            right
            refine decide_eq_false fun h => ?_
            have:=h k hlt
            rw [hg] at this; cases this))
          rw [hg] at hv
          clear hg hht
          go_wp2_with fail
          refine hv.out.mono ?_
          rintro e w3 ⟨rfl,hb3⟩
          have B3:=Lib.hid (HBB.out.trans (hb3.mono HBB.out.size))
          clear hb3
          go_wp2
          (try rw [Exit.noGoto_ret]); go_ret3
          exact ⟨by rw [HR.out.1,HR.out.2.1,HR.out.2.2]; rfl,B3.out⟩
        · rw [hg] at hv
          have HALL2 : Hid (∀ j,j < k + 1 → goValid (rk ls j) = true):=fun j hj => by
            by_cases e : j = k
            · rw [e]; exact hg
            · exact HALL.out j (by omega)
          clear hg
          go_wp2_with fail
          refine hv.out.mono ?_
          rintro e w3 ⟨rfl,hb3⟩
          have B3:=Lib.hid (HB.out.trans (hb3.mono (by omega)))
          have G3:=HG.out.below hb3 HG.out.lt
          have c3:=Lib.hid (G3.cell (i:=0) rfl)
          have HP3:=Lib.hid ((HPC.out.below hb3).mono hb3.size)
          have HZ3:=Lib.hid ((HPZ.out.below hb3).mono hb3.size)
          have hz3:=B3.out.size
          clear hb3 G3
          cases ht with
          | some q =>
            have hst2 : Hid (hitTo c ls (k + 1) = some q):=by show _ = _; rw [hst.out]; rfl
            go_wp2
            go_roundw
            case rel => exact ⟨k + 1,by omega,by go_num,rfl,by rw [hst2.out],by rw [hst2.out]; rfl,HALL2.out,B3.out⟩
            case measure => simp [intOf]; omega
          | none =>
            cases gc
            · have hst2 : Hid (hitTo c ls (k + 1) = none):=by
                show _ = _
                rw [hst.out]
                have : touchB c (rk ls k) = false:=by unfold touchB; rw [HGC.out]; rfl
                rw [this]; rfl
              go_wp2
              go_roundw
              case rel => exact ⟨k + 1,by omega,by go_num,rfl,by rw [hst2.out],by rw [hst2.out]; rfl,HALL2.out,B3.out⟩
              case measure => simp [intOf]; omega
            · have ht:=Lib.hid (touching1_any w.heap.size _ _ c (rk ls k) w3 c3.out HP3.out HZ3.out)
              go_wp2_with fail
              refine ht.out.mono ?_
              rintro e w4 ⟨rfl,hb4⟩
              have B4:=Lib.hid (B3.out.trans (hb4.mono (by omega)))
              clear hb4
              cases htb : touchB c (rk ls k)
              · have hst2 : Hid (hitTo c ls (k + 1) = none):=by show _ = _; rw [hst.out,htb]; rfl
                clear htb
                go_wp2
                go_roundw
                case rel => exact ⟨k + 1,by omega,by go_num,rfl,by rw [hst2.out],by rw [hst2.out]; rfl,HALL2.out,B4.out⟩
                case measure => simp [intOf]; omega
              · have hst2 : Hid (hitTo c ls (k + 1) = some k):=by show _ = _; rw [hst.out,htb]; rfl
                clear htb
                go_wp2
                go_roundw
                case rel => exact ⟨k + 1,by omega,by go_num,rfl,by rw [hst2.out]; rfl,by rw [hst2.out]; rfl,HALL2.out,B4.out⟩
                case measure => simp [intOf]; omega
      · obtain rfl : k = ls.length:=by omega
        have dk : decide ((ls.length : Int) < (ls.length : Int)) = false:=by simp
        have HBB:=Lib.hid BB
        clear hB BB G
        cases gc
        · have HR:=Lib.hid (fir_bad hle (show okRocks c ls = false by unfold okRocks; rw [HGC.out]; rfl))
          generalize hitTo c ls ls.length = ht at *
          go_wp2
          (try rw [Exit.noGoto_ret]); go_ret3
          exact ⟨by rw [HR.out.1,HR.out.2.1,HR.out.2.2]; rfl,HBB.out⟩
        · have hok : okRocks c ls = true:=by
            unfold okRocks
            rw [HGC.out,Bool.true_and]
            exact decide_eq_true HALL.out
          have HR:=Lib.hid (show firI c ls = natO (hitTo c ls ls.length) ∧ firB c ls = (hitTo c ls ls.length).isSome ∧ firE c ls = 0 by unfold firI firB firE; simp [hle,hok])
          clear hok
          go_wp2
          (try rw [Exit.noGoto_ret]); go_ret3
          exact ⟨by rw [HR.out.1,HR.out.2.1,HR.out.2.2]; rfl,HBB.out⟩
end Go.Proofs.YtdkeiadpnnleoaaGreat
namespace Go.Proofs.YtdkeiadpnnleoaaGreat
def validC (l : List Pt) : Bool :=
  decide (1 ≤ l.length ∧ l.length ≤ 64) && (List.range l.length).all (fun k => placeP (nth l k) && (decide (k = 0) || decide (cmpP (nth l 0) (nth l k) < 0))) &&
    (decide (l.length < 3) || (List.range l.length).all (fun i => (List.range l.length).all (fun k => decide (nth l k = (sideP l i).1) || decide (nth l k = (sideP l i).2) || decide (0 < turnP (sideP l i).1 (sideP l i).2 (nth l k)))))
theorem validC_iff (l : List Pt) : validC l = true ↔ GoValid l := by
  simp only [validC,Bool.and_eq_true,Bool.or_eq_true,decide_eq_true_eq,List.all_eq_true,List.mem_range]
  constructor
  · rintro ⟨⟨⟨h1,h2⟩,h3⟩,h4⟩
    refine ⟨h1,h2,fun k hk => ⟨(h3 k hk).1,fun h0 => ?_⟩,fun hn i hi k hk e1 e2 => ?_⟩
    · rcases (h3 k hk).2 with h | h
      · omega
      · exact h
    · rcases h4 with h | h
      · omega
      · rcases h i hi k hk with (h | h) | h
        · exact absurd h e1
        · exact absurd h e2
        · exact h
  · rintro ⟨h1,h2,h3,h4⟩
    refine ⟨⟨⟨h1,h2⟩,fun k hk => ⟨(h3 k hk).1,?_⟩⟩,?_⟩
    · rcases Nat.eq_zero_or_pos k with h | h
      · exact .inl h
      · exact .inr ((h3 k hk).2 h)
    · rcases Nat.lt_or_ge l.length 3 with h | h
      · exact .inl h
      · refine .inr fun i hi k hk => ?_
        by_cases e1 : nth l k = (sideP l i).1
        · exact .inl (.inl e1)
        · by_cases e2 : nth l k = (sideP l i).2
          · exact .inl (.inr e2)
          · exact .inr (h4 h i hi k hk e1 e2)
theorem goValid_eq (l : List Pt) : goValid l = validC l:=by
  cases h : validC l
  · have : ¬ GoValid l:=fun h2 => by rw [(validC_iff l).2 h2] at h; cases h
    simpa [goValid] using this
  · have:=(validC_iff l).1 h
    simpa [goValid] using this
theorem goValid_true {l : List Pt} (h : goValid l = true) : GoValid l:=by simpa [goValid] using h
theorem loTo_le (f : Pt → Int) (l : List Pt) : ∀ k,(∀ j,j < k → loTo f l k ≤ f (nth l j)) ∧ loTo f l k ≤ f (nth l 0)
  | 0 => ⟨fun j h => by omega,Int.le_refl _⟩
  | k + 1 => by
    have ih:=loTo_le f l k
    simp only [loTo]
    constructor
    · intro j hj
      by_cases e : j = k
      · subst e; split <;> omega
      · have:=ih.1 j (by omega); split <;> omega
    · have:=ih.2; split <;> omega
theorem hiTo_ge (f : Pt → Int) (l : List Pt) : ∀ k,(∀ j,j < k → f (nth l j) ≤ hiTo f l k) ∧ f (nth l 0) ≤ hiTo f l k
  | 0 => ⟨fun j h => by omega,Int.le_refl _⟩
  | k + 1 => by
    have ih:=hiTo_ge f l k
    simp only [hiTo]
    constructor
    · intro j hj
      by_cases e : j = k
      · subst e; split <;> omega
      · have:=ih.1 j (by omega); split <;> omega
    · have:=ih.2; split <;> omega
theorem inside_corner {l : List Pt} (h : GoValid l) {k : Nat} (hk : k < l.length) : inside l (nth l k) = true:=by
  unfold inside
  by_cases h3 : l.length < 3
  · rw [if_pos h3,decide_eq_true_eq]
    refine ⟨?_,(loTo_le bxF1 l l.length).1 k hk,(hiTo_ge bxF1 l l.length).1 k hk,(loTo_le bxF2 l l.length).1 k hk,(hiTo_ge bxF2 l l.length).1 k hk⟩
    rcases (show k = 0 ∨ k = l.length - 1 by omega) with e | e
    · rw [e]; unfold turnP turnV; grind
    · rw [e]; unfold turnP turnV; grind
  · rw [if_neg h3,decide_eq_true_eq]
    intro i hi
    by_cases e1 : nth l k = (sideP l i).1
    · rw [e1]; unfold turnP turnV; grind
    · by_cases e2 : nth l k = (sideP l i).2
      · rw [e2]; unfold turnP turnV; grind
      · have:=h.2.2.2 (by omega) i hi k hk e1 e2; omega
theorem hasB_corner {l : List Pt} (h : goValid l = true) {k : Nat} (hk : k < l.length) : hasB l (nth l k) = true:=by
  have g:=goValid_true h
  simp only [hasB,h,(g.2.2.1 k hk).1,inside_corner g hk,Bool.and_true]
noncomputable def cornersC (l m : List Pt) : Nat → List Pt
  | 0 => []
  | k + 1 => if (placeP (nth l k) && inside m (nth l k)) = true then cornersC l m k ++ [nth l k] else cornersC l m k
theorem cornersC_eq {l m : List Pt} (hm : goValid m = true) : ∀ k,cornersTo l m k = cornersC l m k
  | 0 => rfl
  | k + 1 => by simp only [cornersTo,cornersC,hasB,hm,Bool.true_and,cornersC_eq hm k]
end Go.Proofs.YtdkeiadpnnleoaaGreat
namespace Go.Proofs.YtdkeiadpnnleoaaGreat
def InH (l : List Pt) (X Y W : Int) : Prop :=
  if l.length < 3 then SegH (nth l 0) (nth l (l.length - 1)) X Y W else ∀ i,i < l.length → 0 ≤ hturn (sideP l i).1 (sideP l i).2 X Y W
theorem boxL_le {l : List Pt} {k : Nat} (hk : k < l.length) : (boxL l).x ≤ (nth l k).x ∧ (boxL l).y ≤ (nth l k).y:=⟨(loTo_le bxF1 l l.length).1 k hk,(loTo_le bxF2 l l.length).1 k hk⟩
theorem boxH_ge {l : List Pt} {k : Nat} (hk : k < l.length) : (nth l k).x ≤ (boxH l).x ∧ (nth l k).y ≤ (boxH l).y:=⟨(hiTo_ge bxF1 l l.length).1 k hk,(hiTo_ge bxF2 l l.length).1 k hk⟩
theorem loTo_two (f : Pt → Int) (l : List Pt) : ∀ k,(∃ j,(j < k ∨ j = 0) ∧ loTo f l k = f (nth l j))
  | 0 => ⟨0,.inr rfl,rfl⟩
  | k + 1 => by
    obtain ⟨j,hj,e⟩:=loTo_two f l k
    simp only [loTo]
    by_cases h : f (nth l k) < loTo f l k
    · exact ⟨k,.inl (by omega),by split <;> omega⟩
    · exact ⟨j,by omega,by split <;> omega⟩
theorem hiTo_two (f : Pt → Int) (l : List Pt) : ∀ k,(∃ j,(j < k ∨ j = 0) ∧ hiTo f l k = f (nth l j))
  | 0 => ⟨0,.inr rfl,rfl⟩
  | k + 1 => by
    obtain ⟨j,hj,e⟩:=hiTo_two f l k
    simp only [hiTo]
    by_cases h : hiTo f l k < f (nth l k)
    · exact ⟨k,.inl (by omega),by split <;> omega⟩
    · exact ⟨j,by omega,by split <;> omega⟩
theorem SegH.turn {a b : Pt} {X Y W K s t : Int} (e1 : K * X = s * a.x + t * b.x) (e2 : K * Y = s * a.y + t * b.y) (e3 : K * W = s + t) (u v : Pt) : K * hturn u v X Y W = s * turnP u v a + t * turnP u v b:=by
  rw [← hturn_scale,e1,e2,e3]
  unfold hturn turnP turnV; grind
theorem mul_nn_cancel {K a : Int} (hK : 0 < K) (h : 0 ≤ K * a) : 0 ≤ a:=by
  rcases Int.lt_or_le a 0 with h' | h'
  · have:=Int.mul_neg_of_pos_of_neg hK h'; omega
  · exact h'
def Ord (a b : Pt) : Prop:=a = b ∨ a.x < b.x ∨ a.x = b.x ∧ a.y < b.y
theorem GoValid.ord {l : List Pt} (h : GoValid l) (h3 : l.length < 3) : Ord (nth l 0) (nth l (l.length - 1)):=by
  by_cases e : l.length = 1
  · left; rw [e]
  · have h1:=h.1
    have e2 : l.length = 2:=by omega
    have:=(h.2.2.1 1 (by omega)).2 (by omega)
    rw [e2]
    unfold cmpP at this
    rw [cmpV_lt_iff] at this
    exact .inr this
theorem seg_of_box {a b x : Pt} (ho : Ord a b) (ht : turnP a b x = 0) (h1 : (if b.x < a.x then b.x else a.x) ≤ x.x) (h2 : x.x ≤ (if a.x < b.x then b.x else a.x)) (h3 : (if b.y < a.y then b.y else a.y) ≤ x.y) (h4 : x.y ≤ (if a.y < b.y then b.y else a.y)) : SegH a b x.x x.y 1:=by
  rcases ho with rfl | h | ⟨h,h'⟩
  · simp only [Int.lt_irrefl,if_false] at h1 h2 h3 h4
    exact ⟨1,1,0,by omega,by omega,by omega,by omega,by omega,by omega⟩
  · rw [if_neg (by omega)] at h1
    rw [if_pos h] at h2
    refine ⟨b.x - a.x,b.x - x.x,x.x - a.x,by omega,by omega,by omega,by grind,?_,by omega⟩
    unfold turnP turnV at ht; grind
  · have hx : x.x = a.x:=by rw [h,if_neg (by omega)] at h1 h2; omega
    rw [if_neg (by omega)] at h3
    rw [if_pos h'] at h4
    refine ⟨b.y - a.y,b.y - x.y,x.y - a.y,by omega,by omega,by omega,?_,by grind,by omega⟩
    rw [hx,h]; grind
theorem inH_of_inside {l : List Pt} (hl : GoValid l) {x : Pt} (h : inside l x = true) : InH l x.x x.y 1:=by
  unfold inside at h
  unfold InH
  by_cases h3 : l.length < 3
  · rw [if_pos h3] at h ⊢
    rw [decide_eq_true_eq] at h
    obtain ⟨ht,b1,b2,b3,b4⟩:=h
    have l1:=hl.1
    have two : ∀ j,(j < l.length ∨ j = 0) → nth l j = nth l 0 ∨ nth l j = nth l (l.length - 1):=fun j hj => by
      rcases (show j = 0 ∨ j = l.length - 1 by omega) with rfl | rfl
      · exact .inl rfl
      · exact .inr rfl
    refine seg_of_box (hl.ord h3) ht ?_ ?_ ?_ ?_
    · obtain ⟨j,hj,e⟩:=loTo_two bxF1 l l.length
      have e' : (boxL l).x = (nth l j).x:=e
      rcases two j hj with q | q <;> rw [q] at e' <;> split <;> omega
    · obtain ⟨j,hj,e⟩:=hiTo_two bxF1 l l.length
      have e' : (boxH l).x = (nth l j).x:=e
      rcases two j hj with q | q <;> rw [q] at e' <;> split <;> omega
    · obtain ⟨j,hj,e⟩:=loTo_two bxF2 l l.length
      have e' : (boxL l).y = (nth l j).y:=e
      rcases two j hj with q | q <;> rw [q] at e' <;> split <;> omega
    · obtain ⟨j,hj,e⟩:=hiTo_two bxF2 l l.length
      have e' : (boxH l).y = (nth l j).y:=e
      rcases two j hj with q | q <;> rw [q] at e' <;> split <;> omega
  · rw [if_neg h3] at h ⊢
    rw [decide_eq_true_eq] at h
    exact fun i hi => by rw [hturn_one]; exact h i hi
theorem inside_of_inH {l : List Pt} (h1 : 1 ≤ l.length) {x : Pt} (h : InH l x.x x.y 1) : inside l x = true := by
  unfold InH at h
  unfold inside
  by_cases h3 : l.length < 3
  · rw [if_pos h3] at h ⊢
    rw [decide_eq_true_eq]
    obtain ⟨K,s,t,hK,hs,ht,e1,e2,e3⟩:=h
    have tt:=SegH.turn e1 e2 e3 (nth l 0) (nth l (l.length - 1))
    rw [hturn_one,hturn_fst,hturn_snd,Int.mul_zero,Int.mul_zero,Int.add_zero] at tt
    have l0:=boxL_le (l:=l) (k:=0) (by omega)
    have l1:=boxL_le (l:=l) (k:=l.length - 1) (by omega)
    have g0:=boxH_ge (l:=l) (k:=0) (by omega)
    have g1:=boxH_ge (l:=l) (k:=l.length - 1) (by omega)
    generalize nth l 0 = a at *
    generalize nth l (l.length - 1) = b at *
    have lo : ∀ c p q r : Int,c ≤ p → c ≤ q → K * r = s * p + t * q → c ≤ r:=fun c p q r hp hq e => by
      have m1:=Int.mul_nonneg hs (show 0 ≤ p - c by omega)
      have m2:=Int.mul_nonneg ht (show 0 ≤ q - c by omega)
      have : 0 ≤ r - c:=mul_nn_cancel hK (by
        have : K * (r - c) = s * (p - c) + t * (q - c):=by rw [Int.mul_sub,e]; grind
        omega)
      omega
    have hi : ∀ c p q r : Int,p ≤ c → q ≤ c → K * r = s * p + t * q → r ≤ c:=fun c p q r hp hq e => by
      have m1:=Int.mul_nonneg hs (show 0 ≤ c - p by omega)
      have m2:=Int.mul_nonneg ht (show 0 ≤ c - q by omega)
      have : 0 ≤ c - r:=mul_nn_cancel hK (by
        have : K * (c - r) = s * (c - p) + t * (c - q):=by rw [Int.mul_sub,e]; grind
        omega)
      omega
    refine ⟨?_,lo _ _ _ _ l0.1 l1.1 e1,hi _ _ _ _ g0.1 g1.1 e1,lo _ _ _ _ l0.2 l1.2 e2,hi _ _ _ _ g0.2 g1.2 e2⟩
    rcases Int.mul_eq_zero.1 tt with h | h
    · omega
    · exact h
  · rw [if_neg h3] at h ⊢
    rw [decide_eq_true_eq]
    exact fun i hi => by rw [← hturn_one]; exact h i hi
theorem GoValid.conv {l : List Pt} (h : GoValid l) (h3 : 3 ≤ l.length) : Conv (nth l) l.length:=by
  have hd:=go_distinct (l:=l) (fun k h1 hk => (h.2.2.1 k hk).2 h1) (fun i hi k hk a b => h.2.2.2 h3 i hi k hk a b)
  have ne : ∀ i k,i < l.length → k < l.length → i ≠ k → nth l i ≠ nth l k:=by
    intro i k hi hk hne e
    rcases Nat.lt_or_gt_of_ne hne with h' | h'
    · exact hd _ i k rfl h' hk e
    · exact hd _ k i rfl h' hi e.symm
  refine ⟨h3,fun i hi k hk e1 e2 => h.2.2.2 h3 i hi k hk (ne _ _ hk hi e1) (ne _ _ hk (nx_lt h3) e2)⟩
theorem inH_corner {l : List Pt} (h : GoValid l) {k : Nat} (hk : k < l.length) : InH l (nth l k).x (nth l k).y 1:=inH_of_inside h (inside_corner h hk)
theorem inH_mix {l : List Pt} {X Y W X1 Y1 W1 X2 Y2 W2 K s t : Int} (hK : 0 < K) (hs : 0 ≤ s) (ht : 0 ≤ t) (e1 : K * X = s * X1 + t * X2) (e2 : K * Y = s * Y1 + t * Y2) (e3 : K * W = s * W1 + t * W2)
    (h1 : InH l X1 Y1 W1) (h2 : InH l X2 Y2 W2) : InH l X Y W:=by
  unfold InH at *
  by_cases h3 : l.length < 3
  · rw [if_pos h3] at *
    obtain ⟨k,p,q,k0,p0,q0,a1,a2,a3⟩:=h1
    obtain ⟨k',p',q',k0',p0',q0',b1,b2,b3⟩:=h2
    have n1:=Int.mul_nonneg (Int.mul_nonneg hs (Int.le_of_lt k0')) p0
    have n2:=Int.mul_nonneg (Int.mul_nonneg ht (Int.le_of_lt k0)) p0'
    have n3:=Int.mul_nonneg (Int.mul_nonneg hs (Int.le_of_lt k0')) q0
    have n4:=Int.mul_nonneg (Int.mul_nonneg ht (Int.le_of_lt k0)) q0'
    refine ⟨k * k' * K,s * k' * p + t * k * p',s * k' * q + t * k * q',Int.mul_pos (Int.mul_pos k0 k0') hK,by omega,by omega,?_,?_,?_⟩
    · have : k * k' * K * X = s * k' * (k * X1) + t * k * (k' * X2):=by
        have : k * k' * K * X = k * k' * (K * X):=by grind
        rw [this,e1]; grind
      rw [this,a1,b1]; grind
    · have : k * k' * K * Y = s * k' * (k * Y1) + t * k * (k' * Y2):=by
        have : k * k' * K * Y = k * k' * (K * Y):=by grind
        rw [this,e2]; grind
      rw [this,a2,b2]; grind
    · have : k * k' * K * W = s * k' * (k * W1) + t * k * (k' * W2):=by
        have : k * k' * K * W = k * k' * (K * W):=by grind
        rw [this,e3]; grind
      rw [this,a3,b3]; grind
  · rw [if_neg h3] at *
    intro i hi
    have a:=Int.mul_nonneg hs (h1 i hi)
    have b:=Int.mul_nonneg ht (h2 i hi)
    refine mul_nn_cancel hK ?_
    rw [← hturn_scale,e1,e2,e3,hturn_lin]
    omega
theorem inH_seg {l : List Pt} {a b : Pt} (ha : InH l a.x a.y 1) (hb : InH l b.x b.y 1) {X Y W : Int} (hs : SegH a b X Y W) : InH l X Y W:=by
  obtain ⟨K,s,t,hK,h1,h2,e1,e2,e3⟩:=hs
  exact inH_mix hK h1 h2 e1 e2 (by omega) ha hb
def CrossS (S T : Pt × Pt) : Prop:=(crossB (turnP S.1 S.2 T.1) (turnP S.1 S.2 T.2) && crossB (turnP T.1 T.2 S.1) (turnP T.1 T.2 S.2)) = true
theorem CrossS.symm {S T : Pt × Pt} (h : CrossS S T) : CrossS T S:=by unfold CrossS at *; rwa [Bool.and_comm]
theorem seg_meets {P : Nat → Pt} {n : Nat} (h : Conv P n) {u v : Pt} {X Y W : Int} (hW : 0 < W) (hin : ∀ j,j < n → 0 ≤ hs P n j X Y W) (hsg : SegH u v X Y W) :
    (∀ j,j < n → 0 ≤ hs P n j u.x u.y 1) ∨ (∀ j,j < n → 0 ≤ hs P n j v.x v.y 1) ∨ (∃ k,k < n ∧ SegH u v (P k).x (P k).y 1) ∨ ∃ i,i < n ∧ CrossS (P i,P ((i + 1) % n)) (u,v):=by
  by_cases hu : ∀ j,j < n → 0 ≤ hs P n j u.x u.y 1
  · exact .inl hu
  by_cases hv : ∀ j,j < n → 0 ≤ hs P n j v.x v.y 1
  · exact .inr (.inl hv)
  right; right
  have hu' : ∃ j,j < n ∧ hs P n j u.x u.y 1 < 0:=by
    apply Classical.byContradiction
    intro hc
    exact hu fun j hj => by
      rcases Int.lt_or_le (hs P n j u.x u.y 1) 0 with h' | h'
      · exact absurd ⟨j,hj,h'⟩ hc
      · exact h'
  obtain ⟨i,hi,hneg,hall⟩:=exit_at (fun j => hs P n j X Y W) (fun j => hs P n j u.x u.y 1) n hin hu'
  obtain ⟨B,hB⟩ : ∃ B,-(hs P n i u.x u.y 1) = B:=⟨_,rfl⟩
  obtain ⟨A,hA⟩ : ∃ A,hs P n i X Y W = A:=⟨_,rfl⟩
  simp only [hB,hA] at hall
  have hB0 : 0 < B:=by omega
  have hA0 : 0 ≤ A:=by have:=hin i hi; omega
  have hq : ∀ j,j < n → 0 ≤ hs P n j (B * X + A * u.x) (B * Y + A * u.y) (B * W + A * 1):=fun j hj => by
    have:=hall j hj
    unfold hs at *
    rw [hturn_lin]; exact this
  have hq0 : hs P n i (B * X + A * u.x) (B * Y + A * u.y) (B * W + A * 1) = 0:=by
    unfold hs at *
    rw [hturn_lin,hA]
    have : hturn (P i) (P ((i + 1) % n)) u.x u.y 1 = -B:=by omega
    rw [this]; grind
  have hqW : 0 < B * W + A * 1:=by have:=Int.mul_pos hB0 hW; omega
  have hside:=h.on_side hq hi hq0
  obtain ⟨K,s,t,hK,hs0,ht0,e1,e2,e3⟩:=hsg
  have g1 : K * (B * X + A * u.x) = (B * s + K * A) * u.x + (B * t) * v.x:=by
    have : K * (B * X + A * u.x) = B * (K * X) + K * A * u.x:=by grind
    rw [this,e1]; grind
  have g2 : K * (B * Y + A * u.y) = (B * s + K * A) * u.y + (B * t) * v.y:=by
    have : K * (B * Y + A * u.y) = B * (K * Y) + K * A * u.y:=by grind
    rw [this,e2]; grind
  have g3 : K * (B * W + A * 1) = (B * s + K * A) + (B * t):=by
    have : K * (B * W + A * 1) = B * (K * W) + K * A:=by grind
    rw [this,e3]; grind
  have p0 : 0 ≤ B * s + K * A:=by have:=Int.mul_nonneg (Int.le_of_lt hB0) hs0; have:=Int.mul_nonneg (Int.le_of_lt hK) hA0; omega
  have q0 : 0 ≤ B * t:=Int.mul_nonneg (Int.le_of_lt hB0) ht0
  generalize B * s + K * A = p at *
  generalize B * t = q at *
  generalize B * X + A * u.x = X1 at *
  generalize B * Y + A * u.y = Y1 at *
  generalize B * W + A * 1 = W1 at *
  have tq:=SegH.turn g1 g2 g3 (P i) (P ((i + 1) % n))
  have hq0' : hturn (P i) (P ((i + 1) % n)) X1 Y1 W1 = 0:=hq0
  have tu : turnP (P i) (P ((i + 1) % n)) u < 0:=by have : hs P n i u.x u.y 1 = _:=hturn_one _ _ u; omega
  rw [hq0',Int.mul_zero] at tq
  have sv : SegH u v X1 Y1 W1:=⟨K,p,q,hK,p0,q0,g1,g2,g3⟩
  have pp : 0 < p:=by
    rcases Int.lt_or_le 0 p with h' | h'
    · exact h'
    · exfalso
      have pz : p = 0:=by omega
      rw [pz] at g1 g2 g3
      refine hv fun j hj => ?_
      have qq : 0 < q:=by have:=Int.mul_pos hK hqW; omega
      refine mul_nn_cancel qq ?_
      have:=Int.mul_nonneg (Int.le_of_lt hK) (hq j hj)
      unfold hs at *
      rw [← hturn_scale] at this ⊢
      rw [show q * v.x = K * X1 by omega,show q * v.y = K * Y1 by omega,show q * 1 = K * W1 by omega]
      exact this
  have tv : 0 < q * turnP (P i) (P ((i + 1) % n)) v:=by have:=Int.mul_neg_of_pos_of_neg pp tu; omega
  have tv' : 0 < turnP (P i) (P ((i + 1) % n)) v:=by
    rcases Int.lt_or_le 0 (turnP (P i) (P ((i + 1) % n)) v) with h' | h'
    · exact h'
    · have:=Int.mul_nonneg q0 (show 0 ≤ -turnP (P i) (P ((i + 1) % n)) v by omega)
      rw [Int.mul_neg] at this; omega
  obtain ⟨K',s',t',hK',s0',t0',f1,f2,f3⟩:=hside
  have ends : ∀ c : Pt,∀ r : Int,0 < r → r * c.x = K' * X1 → r * c.y = K' * Y1 → r = K' * W1 → SegH u v c.x c.y 1:=fun c r hr z1 z2 z3 => by
    have n1:=Int.mul_nonneg (Int.le_of_lt hK') p0
    have n2:=Int.mul_nonneg (Int.le_of_lt hK') q0
    refine ⟨K * r,K' * p,K' * q,Int.mul_pos hK hr,n1,n2,?_,?_,?_⟩
    · rw [Int.mul_assoc,z1,show K * (K' * X1) = K' * (K * X1) by grind,g1]; grind
    · rw [Int.mul_assoc,z2,show K * (K' * Y1) = K' * (K * Y1) by grind,g2]; grind
    · rw [Int.mul_assoc,Int.mul_one,z3,show K * (K' * W1) = K' * (K * W1) by grind,g3]; grind
  have kw : 0 < K' * W1:=Int.mul_pos hK' hqW
  by_cases hs' : s' = 0
  · subst hs'
    exact .inl ⟨(i + 1) % n,nx_lt h.n3,ends _ t' (by omega) (by omega) (by omega) (by omega)⟩
  by_cases ht' : t' = 0
  · subst ht'
    exact .inl ⟨i,hi,ends _ s' (by omega) (by omega) (by omega) (by omega)⟩
  right
  refine ⟨i,hi,?_⟩
  have tt:=SegH.turn f1 f2 f3 u v
  have tz : hturn u v X1 Y1 W1 = 0:=by
    have:=SegH.turn g1 g2 g3 u v
    rw [hturn_fst,hturn_snd,Int.mul_zero,Int.mul_zero,Int.add_zero] at this
    rcases Int.mul_eq_zero.1 this with h' | h'
    · omega
    · exact h'
  rw [tz,Int.mul_zero] at tt
  have df : turnP u v (P ((i + 1) % n)) - turnP u v (P i) = turnP (P i) (P ((i + 1) % n)) u - turnP (P i) (P ((i + 1) % n)) v:=by unfold turnP turnV; grind
  unfold CrossS crossB
  simp only [Bool.and_eq_true,decide_eq_true_eq]
  refine ⟨.inl ⟨tu,tv'⟩,?_⟩
  generalize turnP u v (P ((i + 1) % n)) = β at *
  generalize turnP u v (P i) = α at *
  have hlt : β < α:=by omega
  have s1 : 0 < s':=by omega
  have t1 : 0 < t':=by omega
  right
  constructor
  · rcases Int.lt_or_le 0 α with h' | h'
    · exact h'
    · have m1:=Int.mul_nonneg (Int.le_of_lt s1) (show 0 ≤ -α by omega)
      have m2:=Int.mul_neg_of_pos_of_neg t1 (show β < 0 by omega)
      rw [Int.mul_neg] at m1; omega
  · rcases Int.lt_or_le β 0 with h' | h'
    · exact h'
    · have m1:=Int.mul_nonneg (Int.le_of_lt t1) h'
      have m2:=Int.mul_pos s1 (show 0 < α by omega)
      omega
theorem segs_meet {a b u v : Pt} (h1 : Ord a b) (h2 : Ord u v) {X Y W : Int} (hW : 0 < W) (hs1 : SegH a b X Y W) (hs2 : SegH u v X Y W) :
    SegH u v a.x a.y 1 ∨ SegH u v b.x b.y 1 ∨ SegH a b u.x u.y 1 ∨ SegH a b v.x v.y 1 ∨ CrossS (a,b) (u,v):=by
  have e1:=hs1
  have e2:=hs2
  obtain ⟨K,s,t,hK,s0,t0,f1,f2,f3⟩:=hs1
  obtain ⟨L,p,q,hL,p0,q0,g1,g2,g3⟩:=hs2
  have kw : 0 < K * W:=Int.mul_pos hK hW
  have lw : 0 < L * W:=Int.mul_pos hL hW
  have pnt : ∀ (c d e : Pt) (r M : Int),0 < M → 0 < r → r * c.x = M * X → r * c.y = M * Y → r = M * W → SegH d e X Y W → SegH d e c.x c.y 1:=fun c d e r M hM hr z1 z2 z3 hse => by
    obtain ⟨N,x,y,hN,x0,y0,a1,a2,a3⟩:=hse
    refine ⟨N * r,M * x,M * y,Int.mul_pos hN hr,Int.mul_nonneg (by omega) x0,Int.mul_nonneg (by omega) y0,?_,?_,?_⟩
    · rw [Int.mul_assoc,z1,show N * (M * X) = M * (N * X) by grind,a1]; grind
    · rw [Int.mul_assoc,z2,show N * (M * Y) = M * (N * Y) by grind,a2]; grind
    · rw [Int.mul_assoc,Int.mul_one,z3,show N * (M * W) = M * (N * W) by grind,a3]; grind
  by_cases zs : s = 0
  · subst zs; exact .inr (.inl (pnt b u v t K hK (by omega) (by omega) (by omega) (by omega) e2))
  by_cases zt : t = 0
  · subst zt; exact .inl (pnt a u v s K hK (by omega) (by omega) (by omega) (by omega) e2)
  by_cases zp : p = 0
  · subst zp; exact .inr (.inr (.inr (.inl (pnt v a b q L hL (by omega) (by omega) (by omega) (by omega) e1))))
  by_cases zq : q = 0
  · subst zq; exact .inr (.inr (.inl (pnt u a b p L hL (by omega) (by omega) (by omega) (by omega) e1)))
  have sp : 0 < s:=by omega
  have tp : 0 < t:=by omega
  have pp : 0 < p:=by omega
  have qp : 0 < q:=by omega
  have z1 : hturn u v X Y W = 0:=by
    have:=SegH.turn g1 g2 g3 u v
    rw [hturn_fst,hturn_snd,Int.mul_zero,Int.mul_zero,Int.add_zero] at this
    rcases Int.mul_eq_zero.1 this with h' | h' <;> omega
  have z2 : hturn a b X Y W = 0:=by
    have:=SegH.turn f1 f2 f3 a b
    rw [hturn_fst,hturn_snd,Int.mul_zero,Int.mul_zero,Int.add_zero] at this
    rcases Int.mul_eq_zero.1 this with h' | h' <;> omega
  have w1:=SegH.turn f1 f2 f3 u v
  have w2:=SegH.turn g1 g2 g3 a b
  rw [z1,Int.mul_zero] at w1
  rw [z2,Int.mul_zero] at w2
  have df : turnP u v b - turnP u v a = turnP a b u - turnP a b v:=by unfold turnP turnV; grind
  by_cases ha : turnP u v a = 0
  ·
    have hb : turnP u v b = 0:=by
      rw [ha,Int.mul_zero,Int.zero_add] at w1
      rcases Int.mul_eq_zero.1 w1.symm with h' | h'
      · omega
      · exact h'
    have huv : turnP a b u = turnP a b v:=by omega
    have hu : turnP a b u = 0:=by
      rw [← huv,← Int.add_mul] at w2
      rcases Int.mul_eq_zero.1 w2.symm with h' | h' <;> omega
    have hv : turnP a b v = 0:=by omega
    have lo : ∀ c d r : Int,c < d → 0 ≤ r → 0 < r → r * c < r * d:=fun c d r h _ hr => Int.mul_lt_mul_of_pos_left h hr
    rcases h1 with rfl | h1 | ⟨h1,h1'⟩
    · exact .inl (pnt a u v (s + t) K hK (by omega) (by grind) (by grind) (by omega) e2)
    · rcases h2 with rfl | h2 | ⟨h2,h2'⟩
      · exact .inr (.inr (.inl (pnt u a b (p + q) L hL (by omega) (by grind) (by grind) (by omega) e1)))
      ·
        have c1 : u.x < b.x:=by
          rcases Int.lt_or_le u.x b.x with h' | h'
          · exact h'
          · exfalso
            have m1:=Int.mul_lt_mul_of_pos_left h1 sp
            have m2:=Int.mul_lt_mul_of_pos_left h2 qp
            have x1 : K * X < K * (W * b.x):=by rw [f1,← Int.mul_assoc,f3]; grind
            have x2 : L * (W * u.x) < L * X:=by rw [g1,← Int.mul_assoc,g3]; grind
            have y1:=Int.lt_of_mul_lt_mul_left x1 (by omega)
            have y2:=Int.lt_of_mul_lt_mul_left x2 (by omega)
            have:=Int.mul_le_mul_of_nonneg_left h' (Int.le_of_lt hW)
            omega
        have c2 : a.x < v.x:=by
          rcases Int.lt_or_le a.x v.x with h' | h'
          · exact h'
          · exfalso
            have m1:=Int.mul_lt_mul_of_pos_left h1 tp
            have m2:=Int.mul_lt_mul_of_pos_left h2 pp
            have x1 : K * (W * a.x) < K * X:=by rw [f1,← Int.mul_assoc,f3]; grind
            have x2 : L * X < L * (W * v.x):=by rw [g1,← Int.mul_assoc,g3]; grind
            have y1:=Int.lt_of_mul_lt_mul_left x1 (by omega)
            have y2:=Int.lt_of_mul_lt_mul_left x2 (by omega)
            have:=Int.mul_le_mul_of_nonneg_left h' (Int.le_of_lt hW)
            omega
        rcases Int.le_total a.x u.x with h' | h'
        · refine .inr (.inr (.inl ⟨b.x - a.x,b.x - u.x,u.x - a.x,by omega,by omega,by omega,by grind,?_,by omega⟩))
          unfold turnP turnV at hu; grind
        · refine .inl ⟨v.x - u.x,v.x - a.x,a.x - u.x,by omega,by omega,by omega,by grind,?_,by omega⟩
          unfold turnP turnV at ha; grind
      ·
        exfalso
        have : (b.x - a.x) * (v.y - u.y) = 0:=by unfold turnP turnV at ha hb; grind
        rcases Int.mul_eq_zero.1 this with h' | h' <;> omega
    · rcases h2 with rfl | h2 | ⟨h2,h2'⟩
      · exact .inr (.inr (.inl (pnt u a b (p + q) L hL (by omega) (by grind) (by grind) (by omega) e1)))
      · exfalso
        have : (v.x - u.x) * (b.y - a.y) = 0:=by unfold turnP turnV at hu hv; grind
        rcases Int.mul_eq_zero.1 this with h' | h' <;> omega
      · have ex : u.x = a.x:=by
          have : (b.y - a.y) * (u.x - a.x) = 0:=by unfold turnP turnV at hu; grind
          rcases Int.mul_eq_zero.1 this with h' | h' <;> omega
        have c1 : u.y < b.y:=by
          rcases Int.lt_or_le u.y b.y with h' | h'
          · exact h'
          · exfalso
            have m1:=Int.mul_lt_mul_of_pos_left h1' sp
            have m2:=Int.mul_lt_mul_of_pos_left h2' qp
            have x1 : K * Y < K * (W * b.y):=by rw [f2,← Int.mul_assoc,f3]; grind
            have x2 : L * (W * u.y) < L * Y:=by rw [g2,← Int.mul_assoc,g3]; grind
            have y1:=Int.lt_of_mul_lt_mul_left x1 (by omega)
            have y2:=Int.lt_of_mul_lt_mul_left x2 (by omega)
            have:=Int.mul_le_mul_of_nonneg_left h' (Int.le_of_lt hW)
            omega
        have c2 : a.y < v.y:=by
          rcases Int.lt_or_le a.y v.y with h' | h'
          · exact h'
          · exfalso
            have m1:=Int.mul_lt_mul_of_pos_left h1' tp
            have m2:=Int.mul_lt_mul_of_pos_left h2' pp
            have x1 : K * (W * a.y) < K * Y:=by rw [f2,← Int.mul_assoc,f3]; grind
            have x2 : L * Y < L * (W * v.y):=by rw [g2,← Int.mul_assoc,g3]; grind
            have y1:=Int.lt_of_mul_lt_mul_left x1 (by omega)
            have y2:=Int.lt_of_mul_lt_mul_left x2 (by omega)
            have:=Int.mul_le_mul_of_nonneg_left h' (Int.le_of_lt hW)
            omega
        rcases Int.le_total a.y u.y with h' | h'
        · exact .inr (.inr (.inl ⟨b.y - a.y,b.y - u.y,u.y - a.y,by omega,by omega,by omega,by grind,by grind,by omega⟩))
        · exact .inl ⟨v.y - u.y,v.y - a.y,a.y - u.y,by omega,by omega,by omega,by grind,by grind,by omega⟩
  ·
    refine .inr (.inr (.inr (.inr ?_)))
    have opp : ∀ x y α β : Int,0 < x → 0 < y → 0 = x * α + y * β → α ≠ 0 → (α < 0 ∧ 0 < β ∨ 0 < α ∧ β < 0):=fun x y α β hx hy e hα => by
      rcases Int.lt_or_lt_of_ne hα with h' | h'
      · have:=Int.mul_neg_of_pos_of_neg hx h'
        refine .inl ⟨h',?_⟩
        rcases Int.lt_or_le 0 β with h'' | h''
        · exact h''
        · have:=Int.mul_nonneg (Int.le_of_lt hy) (show 0 ≤ -β by omega)
          rw [Int.mul_neg] at this; omega
      · have:=Int.mul_pos hx h'
        refine .inr ⟨h',?_⟩
        rcases Int.lt_or_le β 0 with h'' | h''
        · exact h''
        · have:=Int.mul_nonneg (Int.le_of_lt hy) h''; omega
    have o1:=opp s t _ _ sp tp w1 ha
    have hu : turnP a b u ≠ 0:=fun h' => by
      rw [h',Int.mul_zero,Int.zero_add] at w2
      rcases Int.mul_eq_zero.1 w2.symm with h'' | h'' <;> omega
    have o2:=opp p q _ _ pp qp w2 hu
    unfold CrossS crossB
    simp only [Bool.and_eq_true,decide_eq_true_eq]
    exact ⟨o2,o1⟩
def Touch (l m : List Pt) : Prop:=(∃ k,k < l.length ∧ inside m (nth l k) = true) ∨ (∃ k,k < m.length ∧ inside l (nth m k) = true) ∨ ∃ i j,i < l.length ∧ j < m.length ∧ CrossS (sideP l i) (sideP m j)
theorem Touch.symm {l m : List Pt} (h : Touch l m) : Touch m l:=by
  rcases h with h | h | ⟨i,j,hi,hj,h⟩
  · exact .inr (.inl h)
  · exact .inl h
  · exact .inr (.inr ⟨j,i,hj,hi,h.symm⟩)
theorem side_zero {m : List Pt} (h1 : 1 ≤ m.length) (h3 : m.length < 3) : sideP m 0 = (nth m 0,nth m (m.length - 1)):=by
  unfold sideP
  rcases (show m.length = 1 ∨ m.length = 2 by omega) with e | e <;> rw [e]
theorem touch_seg {l m : List Pt} (hl : GoValid l) (hm : GoValid m) (h3 : 3 ≤ l.length) {j : Nat} (hj : j < m.length) {X Y W : Int} (hW : 0 < W) (h1 : InH l X Y W) (h2 : SegH (sideP m j).1 (sideP m j).2 X Y W) : Touch l m:=by
  have hc:=hl.conv h3
  have nl : ¬ l.length < 3:=by omega
  have j2 : (j + 1) % m.length < m.length:=Nat.mod_lt _ (by omega)
  have mk : ∀ x : Pt,(∀ i,i < l.length → 0 ≤ hs (nth l) l.length i x.x x.y 1) → inside l x = true:=fun x h => inside_of_inH hl.1 (by unfold InH; rw [if_neg nl]; exact h)
  have h1' : ∀ i,i < l.length → 0 ≤ hs (nth l) l.length i X Y W:=by unfold InH at h1; rwa [if_neg nl] at h1
  rcases seg_meets hc hW h1' h2 with h | h | ⟨k,hk,h⟩ | ⟨i,hi,h⟩
  · exact .inr (.inl ⟨j,hj,mk _ h⟩)
  · exact .inr (.inl ⟨(j + 1) % m.length,j2,mk _ h⟩)
  · exact .inl ⟨k,hk,inside_of_inH hm.1 (inH_seg (inH_corner hm hj) (inH_corner hm j2) h)⟩
  · exact .inr (.inr ⟨i,j,hi,hj,h⟩)
theorem touch_big {l m : List Pt} (hl : GoValid l) (hm : GoValid m) (h3 : 3 ≤ l.length) {X Y W : Int} (hW : 0 < W) (h1 : InH l X Y W) (h2 : InH m X Y W) : Touch l m:=by
  by_cases m3 : m.length < 3
  · have h2':=h2
    unfold InH at h2'
    rw [if_pos m3] at h2'
    refine touch_seg hl hm h3 (j:=0) hm.1 hW h1 ?_
    rw [side_zero hm.1 m3]; exact h2'
  · by_cases hin : inside m (nth l 0) = true
    · exact .inl ⟨0,hl.1,hin⟩
    have hcm:=hm.conv (by omega)
    have h2' : ∀ i,i < m.length → 0 ≤ hs (nth m) m.length i X Y W:=by unfold InH at h2; rwa [if_neg m3] at h2
    have hout : ∃ j,j < m.length ∧ hs (nth m) m.length j (nth l 0).x (nth l 0).y 1 < 0:=by
      apply Classical.byContradiction
      intro hc
      refine hin (inside_of_inH hm.1 ?_)
      unfold InH
      rw [if_neg m3]
      intro j hj
      rcases Int.lt_or_le (hturn (sideP m j).1 (sideP m j).2 (nth l 0).x (nth l 0).y 1) 0 with h' | h'
      · exact absurd ⟨j,hj,h'⟩ hc
      · exact h'
    obtain ⟨j,hj,hneg,hall⟩:=exit_at (fun j => hs (nth m) m.length j X Y W) (fun j => hs (nth m) m.length j (nth l 0).x (nth l 0).y 1) m.length h2' hout
    obtain ⟨B,hB⟩ : ∃ B,-(hs (nth m) m.length j (nth l 0).x (nth l 0).y 1) = B:=⟨_,rfl⟩
    obtain ⟨A,hA⟩ : ∃ A,hs (nth m) m.length j X Y W = A:=⟨_,rfl⟩
    simp only [hB,hA] at hall
    have hB0 : 0 < B:=by omega
    have hA0 : 0 ≤ A:=by have:=h2' j hj; omega
    have hq : ∀ i,i < m.length → 0 ≤ hs (nth m) m.length i (B * X + A * (nth l 0).x) (B * Y + A * (nth l 0).y) (B * W + A * 1):=fun i hi => by
      have:=hall i hi
      unfold hs at *
      rw [hturn_lin]; exact this
    have hq0 : hs (nth m) m.length j (B * X + A * (nth l 0).x) (B * Y + A * (nth l 0).y) (B * W + A * 1) = 0:=by
      unfold hs at *
      rw [hturn_lin,hA]
      have : hturn (nth m j) (nth m ((j + 1) % m.length)) (nth l 0).x (nth l 0).y 1 = -B:=by omega
      rw [this]; grind
    have hqW : 0 < B * W + A * 1:=by have:=Int.mul_pos hB0 hW; omega
    have hside:=hcm.on_side hq hj hq0
    refine touch_seg hl hm h3 hj hqW ?_ hside
    exact inH_mix (K:=1) (s:=B) (t:=A) (by omega) (by omega) hA0 (by omega) (by omega) (by omega) h1 (inH_corner hl hl.1)
theorem touch_point {l m : List Pt} (hl : GoValid l) (hm : GoValid m) {X Y W : Int} (hW : 0 < W) (h1 : InH l X Y W) (h2 : InH m X Y W) : Touch l m:=by
  by_cases h3 : 3 ≤ l.length
  · exact touch_big hl hm h3 hW h1 h2
  by_cases m3 : 3 ≤ m.length
  · exact (touch_big hm hl m3 hW h2 h1).symm
  have l3 : l.length < 3:=by omega
  have m3' : m.length < 3:=by omega
  have g1:=h1
  have g2:=h2
  unfold InH at g1 g2
  rw [if_pos l3] at g1
  rw [if_pos m3'] at g2
  have inm : ∀ {x : Pt},SegH (nth m 0) (nth m (m.length - 1)) x.x x.y 1 → inside m x = true:=fun h => inside_of_inH hm.1 (by unfold InH; rwa [if_pos m3'])
  have inl : ∀ {x : Pt},SegH (nth l 0) (nth l (l.length - 1)) x.x x.y 1 → inside l x = true:=fun h => inside_of_inH hl.1 (by unfold InH; rwa [if_pos l3])
  have l1:=hl.1
  have m1:=hm.1
  rcases segs_meet (hl.ord l3) (hm.ord m3') hW g1 g2 with h | h | h | h | h
  · exact .inl ⟨0,by omega,inm h⟩
  · exact .inl ⟨l.length - 1,by omega,inm h⟩
  · exact .inr (.inl ⟨0,by omega,inl h⟩)
  · exact .inr (.inl ⟨m.length - 1,by omega,inl h⟩)
  · exact .inr (.inr ⟨0,0,by omega,by omega,by rw [side_zero l1 l3,side_zero m1 m3']; exact h⟩)
end Go.Proofs.YtdkeiadpnnleoaaGreat
namespace Go.Proofs.YtdkeiadpnnleoaaGreat
def wideN (n : Nat) : Nat:=if isqrt (2 * n * n) * isqrt (2 * n * n) = 2 * n * n then isqrt (2 * n * n) else isqrt (2 * n * n) + 1
theorem wideN_spec (n : Nat) : 2 * n * n ≤ wideN n * wideN n ∧ ∀ m,m < wideN n → m * m < 2 * n * n:=by
  have h:=isqrt_spec (2 * n * n)
  unfold wideN
  generalize isqrt (2 * n * n) = r at *
  generalize 2 * n * n = q at *
  split
  · refine ⟨by omega,fun m hm => ?_⟩
    have:=Nat.mul_lt_mul'' hm hm
    omega
  · refine ⟨by omega,fun m hm => ?_⟩
    have:=Nat.mul_le_mul (show m ≤ r by omega) (show m ≤ r by omega)
    omega
theorem wideN_le {n m : Nat} (h : 2 * n * n ≤ m * m) : wideN n ≤ m:=by
  rcases Nat.lt_or_ge m (wideN n) with h' | h'
  · have:=(wideN_spec n).2 m h'; omega
  · exact h'
theorem wideN_ge (n : Nat) : n ≤ wideN n:=by
  rcases Nat.lt_or_ge (wideN n) n with h' | h'
  · have:=(wideN_spec n).1
    have b:=Nat.mul_lt_mul'' h' h'
    rw [Nat.mul_assoc] at this
    omega
  · exact h'
theorem wideN_two (n : Nat) : wideN n ≤ 2 * n:=wideN_le (by
  have : 2 * n * (2 * n) = 2 * (2 * n * n):=by grind
  omega)
def octK (n : Nat) : Int:=(wideN n : Int) - n
theorem octK_bd (n : Nat) : 0 ≤ octK n ∧ octK n ≤ n:=by
  have:=wideN_ge n
  have:=wideN_two n
  unfold octK; omega
theorem oct_in {P : Int → Int → Int → Prop} (mix : ∀ {X1 Y1 W1 X2 Y2 W2 K s t X Y W : Int}, 0 < K → 0 ≤ s → 0 ≤ t → K * X = s * X1 + t * X2 → K * Y = s * Y1 + t * Y2 → K * W = s * W1 + t * W2 → P X1 Y1 W1 → P X2 Y2 W2 → P X Y W)
    {n k : Int} (h0 : 0 ≤ k) (hn : k ≤ n) (p1 : P n (-k) 1) (p2 : P n k 1) (p3 : P k n 1) (p4 : P (-k) n 1) (p5 : P (-n) k 1) (p6 : P (-n) (-k) 1) (p7 : P (-k) (-n) 1) (p8 : P k (-n) 1)
    {x y : Int} (x1 : -n ≤ x) (x2 : x ≤ n) (y1 : -n ≤ y) (y2 : y ≤ n) (q1 : x + y ≤ n + k) (q2 : x - y ≤ n + k) (q3 : -x + y ≤ n + k) (q4 : -x - y ≤ n + k) : P x y 1:=by
  have ends : ∃ e,0 ≤ e ∧ -e ≤ x ∧ x ≤ e ∧ P e y 1 ∧ P (-e) y 1:=by
    by_cases c : -k ≤ y ∧ y ≤ k
    · refine ⟨n,by omega,x1,x2,?_,?_⟩
      · by_cases z : k = 0
        · subst z; rw [show y = 0 by omega]; exact p2
        · exact mix (K:=2 * k) (s:=y + k) (t:=k - y) (by omega) (by omega) (by omega) (by grind) (by grind) (by grind) p2 p1
      · by_cases z : k = 0
        · subst z; rw [show y = 0 by omega]; exact p5
        · exact mix (K:=2 * k) (s:=y + k) (t:=k - y) (by omega) (by omega) (by omega) (by grind) (by grind) (by grind) p5 p6
    · by_cases c2 : k < y
      · refine ⟨n + k - y,by omega,by omega,by omega,?_,?_⟩
        · exact mix (K:=n - k) (s:=n - y) (t:=y - k) (by omega) (by omega) (by omega) (by grind) (by grind) (by grind) p2 p3
        · exact mix (K:=n - k) (s:=n - y) (t:=y - k) (by omega) (by omega) (by omega) (by grind) (by grind) (by grind) p5 p4
      · refine ⟨n + k + y,by omega,by omega,by omega,?_,?_⟩
        · exact mix (K:=n - k) (s:=n + y) (t:=-y - k) (by omega) (by omega) (by omega) (by grind) (by grind) (by grind) p1 p8
        · exact mix (K:=n - k) (s:=n + y) (t:=-y - k) (by omega) (by omega) (by omega) (by grind) (by grind) (by grind) p6 p7
  obtain ⟨e,e0,e1,e2,pr,pl⟩:=ends
  by_cases z : e = 0
  · subst z; rw [show x = 0 by omega]; exact pr
  · exact mix (K:=2 * e) (s:=x + e) (t:=e - x) (by omega) (by omega) (by omega) (by grind) (by grind) (by grind) pr pl
theorem circle_oct {n : Nat} {x y : Int} (h : x * x + y * y ≤ (n : Int) * n) : (-(n : Int) ≤ x ∧ x ≤ n ∧ -(n : Int) ≤ y ∧ y ≤ n) ∧ (x + y ≤ n + octK n ∧ x - y ≤ n + octK n ∧ -x + y ≤ n + octK n ∧ -x - y ≤ n + octK n):=by
  have sx:=sq_nn (x)
  have sy:=sq_nn (y)
  have root : ∀ a b : Int,0 ≤ b → a * a ≤ b * b → a ≤ b:=fun a b hb hab => by
    rcases Int.lt_or_le b a with h' | h'
    · have e:=Int.mul_le_mul (show b + 1 ≤ a by omega) (show b + 1 ≤ a by omega) (by omega) (by omega)
      have e2 : (b + 1) * (b + 1) = b * b + 2 * b + 1:=by grind
      omega
    · exact h'
  have w:=(wideN_spec n).1
  have w' : 2 * ((n : Int) * n) ≤ (wideN n : Int) * wideN n:=by
    have : ((2 * n * n : Nat) : Int) ≤ ((wideN n * wideN n : Nat) : Int):=by exact_mod_cast w
    push_cast at this
    rw [Int.mul_assoc] at this
    exact this
  have ek : (n : Int) + octK n = wideN n:=by unfold octK; omega
  rw [ek]
  have d1 : (x + y) * (x + y) + (x - y) * (x - y) = 2 * (x * x + y * y):=by grind
  have n1:=sq_nn (x + y)
  have n2:=sq_nn (x - y)
  have e1 : -x * -x = x * x:=Int.neg_mul_neg x x
  have e2 : -y * -y = y * y:=Int.neg_mul_neg y y
  have e3 : (-x - y) * (-x - y) = (x + y) * (x + y):=by grind
  have e4 : (-x + y) * (-x + y) = (x - y) * (x - y):=by grind
  have a1:=root x n (by omega) (by omega)
  have a2:=root (-x) n (by omega) (by omega)
  have a3:=root y n (by omega) (by omega)
  have a4:=root (-y) n (by omega) (by omega)
  have b1:=root (x + y) (wideN n) (by omega) (by omega)
  have b2:=root (x - y) (wideN n) (by omega) (by omega)
  have b3:=root (-x + y) (wideN n) (by omega) (by omega)
  have b4:=root (-x - y) (wideN n) (by omega) (by omega)
  omega
theorem hull_has {l h : List Pt} (k : HullOf l h) {x : Pt} (hx : x ∈ l) : InH h x.x x.y 1 := by
  have hl : l ≠ []:=List.ne_nil_of_mem hx
  have h1:=k.some hl
  unfold InH
  by_cases h3 : h.length < 3
  · rw [if_pos h3]
    rcases (show h.length = 1 ∨ h.length = 2 by omega) with e | e
    · have n0:=k.next 0 (by omega)
      rw [e] at n0 ⊢
      have:=n0.2.1 rfl x hx
      simp only [Nat.sub_self]
      rw [this]
      exact ⟨1,1,0,by omega,by omega,by omega,by omega,by omega,by omega⟩
    · have n0:=k.next 0 (by omega)
      have n1:=k.next 1 (by omega)
      rw [e] at n0 n1 ⊢
      have a:=n0.2.2 x hx
      have b:=(n1.2.2 x hx).1
      change 0 ≤ turnP (nth h 0) (nth h 1) x ∧ (turnP (nth h 0) (nth h 1) x = 0 → Btw (nth h 0) (nth h 1) x) at a
      change 0 ≤ turnP (nth h 1) (nth h 0) x at b
      have sw : turnP (nth h 1) (nth h 0) x = -turnP (nth h 0) (nth h 1) x:=turn_neg _ _ _
      have z : turnP (nth h 0) (nth h 1) x = 0:=by omega
      have bt:=a.2 z
      have lt : LexLt (nth h 0) (nth h 1):=by
        have m1 : nth h 1 ∈ l:=n0.1
        have:=(k.first hl).2 _ m1
        rcases LexLt.tri (nth h 0) (nth h 1) with c | c | c
        · exact c
        · exact absurd c.symm (k.back 1 (by omega) (by omega))
        · exact absurd c this
      show SegH (nth h 0) (nth h 1) x.x x.y 1
      unfold Btw at bt
      unfold LexLt at lt
      exact seg_of_box (.inr lt) z (by split <;> omega) (by split <;> omega) (by split <;> omega) (by split <;> omega)
  · rw [if_neg h3]
    intro i hi
    rw [hturn_one]
    exact ((k.next i hi).2.2 x hx).1
theorem hull_mem {l h : List Pt} (k : HullOf l h) {i : Nat} (hi : i < h.length) : nth h i ∈ l:=by
  by_cases h0 : i = 0
  · subst h0
    by_cases hl : l = []
    · rw [k.none hl] at hi; simp at hi
    · exact (k.first hl).1
  · have:=k.next (i - 1) (by omega)
    rw [show i - 1 + 1 = i by omega,Nat.mod_eq_of_lt hi] at this
    exact this.1
theorem cmp_lex {a b : Pt} : cmpP a b < 0 ↔ LexLt a b:=by
  unfold cmpP LexLt cmpV orI cmpI
  repeat' split
  all_goals omega
theorem hull_valid {l h : List Pt} (k : HullOf l h) (hl : l ≠ []) (h64 : h.length ≤ 64) (hp : ∀ x, x ∈ l → placeP x = true) : GoValid h := by
  have lex : ∀ i,0 < i → i < h.length → LexLt (nth h 0) (nth h i):=fun i h0 hi => by
    have:=(k.first hl).2 _ (hull_mem k hi)
    rcases LexLt.tri (nth h 0) (nth h i) with c | c | c
    · exact c
    · exact absurd c.symm (k.back i h0 hi)
    · exact absurd c this
  refine ⟨k.some hl,h64,fun i hi => ⟨hp _ (hull_mem k hi),fun h0 => cmp_lex.2 (lex i h0 hi)⟩,fun h3 i hi j hj n1 n2 => ?_⟩
  have a:=(k.next i hi).2.2 _ (hull_mem k hj)
  unfold sideP at n1 n2 ⊢
  simp only at n1 n2 ⊢
  rcases Int.lt_or_le 0 (turnP (nth h i) (nth h ((i + 1) % h.length)) (nth h j)) with c | c
  · exact c
  · exfalso
    have z : turnP (nth h i) (nth h ((i + 1) % h.length)) (nth h j) = 0:=by omega
    have bt:=a.2 z
    have mi:=hull_mem k hi
    have mi':=hull_mem k (Nat.mod_lt (i + 1) (by omega) : (i + 1) % h.length < h.length)
    have nj:=k.next j hj
    have bi:=nj.2.2 _ mi
    have bi':=nj.2.2 _ mi'
    have ne : nth h j ≠ nth h ((j + 1) % h.length):=fun e => by
      have all:=nj.2.1 e.symm
      exact n1 (all _ mi).symm
    generalize nth h i = p at *
    generalize nth h ((i + 1) % h.length) = q at *
    generalize nth h j = x at *
    generalize nth h ((j + 1) % h.length) = t at *
    clear nj mi mi' a c k lex
    have hpq : ∃ m n : Int,0 < m ∧ 0 < n ∧ m * (p.x - x.x) + n * (q.x - x.x) = 0 ∧ m * (p.y - x.y) + n * (q.y - x.y) = 0:=by
      unfold Btw at bt
      have n1' : ¬ (x.x = p.x ∧ x.y = p.y):=fun e => n1 (Pt.ext' e.1 e.2)
      have n2' : ¬ (x.x = q.x ∧ x.y = q.y):=fun e => n2 (Pt.ext' e.1 e.2)
      unfold turnP turnV at z
      by_cases hx : x.x = p.x
      · have z1 : (q.x - p.x) * (x.y - p.y) = 0:=by rw [hx] at z; grind
        have z2 : q.x = p.x:=by have:=(Int.mul_eq_zero.1 z1).resolve_right (by omega); omega
        have e1 : p.x - x.x = 0:=by omega
        have e2 : q.x - x.x = 0:=by omega
        rw [e1,e2]
        rcases Int.lt_or_le p.y x.y with c | c
        · exact ⟨q.y - x.y,x.y - p.y,by omega,by omega,by omega,by grind⟩
        · exact ⟨x.y - q.y,p.y - x.y,by omega,by omega,by omega,by grind⟩
      · by_cases hx2 : x.x = q.x
        · have z1 : (q.x - p.x) * (x.y - q.y) = 0:=by rw [hx2] at z; grind
          have:=(Int.mul_eq_zero.1 z1).resolve_left (by omega)
          omega
        · rcases Int.lt_or_le p.x x.x with c | c
          · exact ⟨q.x - x.x,x.x - p.x,by omega,by omega,by grind,by grind⟩
          · exact ⟨x.x - q.x,p.x - x.x,by omega,by omega,by grind,by grind⟩
    obtain ⟨m,n,hm,hn,ex,ey⟩:=hpq
    have lin : m * turnP x t p + n * turnP x t q = 0:=by
      have : m * turnP x t p + n * turnP x t q = (t.x - x.x) * (m * (p.y - x.y) + n * (q.y - x.y)) - (t.y - x.y) * (m * (p.x - x.x) + n * (q.x - x.x)):=by unfold turnP turnV; grind
      rw [this,ex,ey]; simp
    have u1:=Int.mul_nonneg (Int.le_of_lt hm) bi.1
    have u2:=Int.mul_nonneg (Int.le_of_lt hn) bi'.1
    have z1 : turnP x t p = 0:=(Int.mul_eq_zero.1 (show m * turnP x t p = 0 by omega)).resolve_left (by omega)
    have z2 : turnP x t q = 0:=(Int.mul_eq_zero.1 (show n * turnP x t q = 0 by omega)).resolve_left (by omega)
    have b1:=bi.2 z1
    have b2:=bi'.2 z2
    have d1 : 0 ≤ (t.x - x.x) * (p.x - x.x):=by
      unfold Btw at b1
      rcases Int.le_total x.x t.x with c | c
      · exact Int.mul_nonneg (by omega) (by omega)
      · have:=Int.mul_nonneg (show 0 ≤ -(t.x - x.x) by omega) (show 0 ≤ -(p.x - x.x) by omega); rwa [Int.neg_mul_neg] at this
    have d2 : 0 ≤ (t.x - x.x) * (q.x - x.x):=by
      unfold Btw at b2
      rcases Int.le_total x.x t.x with c | c
      · exact Int.mul_nonneg (by omega) (by omega)
      · have:=Int.mul_nonneg (show 0 ≤ -(t.x - x.x) by omega) (show 0 ≤ -(q.x - x.x) by omega); rwa [Int.neg_mul_neg] at this
    have d3 : 0 ≤ (t.y - x.y) * (p.y - x.y):=by
      unfold Btw at b1
      rcases Int.le_total x.y t.y with c | c
      · exact Int.mul_nonneg (by omega) (by omega)
      · have:=Int.mul_nonneg (show 0 ≤ -(t.y - x.y) by omega) (show 0 ≤ -(p.y - x.y) by omega); rwa [Int.neg_mul_neg] at this
    have d4 : 0 ≤ (t.y - x.y) * (q.y - x.y):=by
      unfold Btw at b2
      rcases Int.le_total x.y t.y with c | c
      · exact Int.mul_nonneg (by omega) (by omega)
      · have:=Int.mul_nonneg (show 0 ≤ -(t.y - x.y) by omega) (show 0 ≤ -(q.y - x.y) by omega); rwa [Int.neg_mul_neg] at this
    have s1 : m * ((t.x - x.x) * (p.x - x.x)) + n * ((t.x - x.x) * (q.x - x.x)) = 0:=by
      have : m * ((t.x - x.x) * (p.x - x.x)) + n * ((t.x - x.x) * (q.x - x.x)) = (t.x - x.x) * (m * (p.x - x.x) + n * (q.x - x.x)):=by grind
      rw [this,ex,Int.mul_zero]
    have s2 : m * ((t.y - x.y) * (p.y - x.y)) + n * ((t.y - x.y) * (q.y - x.y)) = 0:=by
      have : m * ((t.y - x.y) * (p.y - x.y)) + n * ((t.y - x.y) * (q.y - x.y)) = (t.y - x.y) * (m * (p.y - x.y) + n * (q.y - x.y)):=by grind
      rw [this,ey,Int.mul_zero]
    have v1:=Int.mul_nonneg (Int.le_of_lt hm) d1
    have v2:=Int.mul_nonneg (Int.le_of_lt hn) d2
    have v3:=Int.mul_nonneg (Int.le_of_lt hm) d3
    have v4:=Int.mul_nonneg (Int.le_of_lt hn) d4
    have w1 : (t.x - x.x) * (p.x - x.x) = 0:=(Int.mul_eq_zero.1 (show m * ((t.x - x.x) * (p.x - x.x)) = 0 by omega)).resolve_left (by omega)
    have w3 : (t.y - x.y) * (p.y - x.y) = 0:=(Int.mul_eq_zero.1 (show m * ((t.y - x.y) * (p.y - x.y)) = 0 by omega)).resolve_left (by omega)
    have hne : ¬ (t.x = x.x ∧ t.y = x.y):=fun e => ne (Pt.ext' e.1.symm e.2.symm)
    have hpx : ¬ (p.x = x.x ∧ p.y = x.y):=fun e => n1 (Pt.ext' e.1.symm e.2.symm)
    unfold turnP turnV at z1
    rcases Int.mul_eq_zero.1 w1 with c | c
    · have c3:=(Int.mul_eq_zero.1 w3).resolve_left (by omega)
      rw [c,c3] at z1
      have z1' : (t.y - x.y) * (p.x - x.x) = 0:=by grind
      have:=(Int.mul_eq_zero.1 z1').resolve_left (by omega)
      omega
    · have c3 : t.y - x.y = 0:=(Int.mul_eq_zero.1 w3).resolve_right (by omega)
      rw [c,c3] at z1
      have z1' : (t.x - x.x) * (p.y - x.y) = 0:=by grind
      have:=(Int.mul_eq_zero.1 z1').resolve_left (by omega)
      omega
end Go.Proofs.YtdkeiadpnnleoaaGreat
namespace Go.Proofs.YtdkeiadpnnleoaaGreat
open Go.RowKit
attribute [local irreducible] wpQuiet
open Classical in
noncomputable def polysB (ls : List (List Pt)) : Bool:=decide (∀ j,j < ls.length → goValid (rk ls j) = true)
theorem polysB_iff {ls : List (List Pt)} : polysB ls = true ↔ ∀ j,j < ls.length → goValid (rk ls j) = true:=by unfold polysB; rw [decide_eq_true_eq]
end Go.Proofs.YtdkeiadpnnleoaaGreat
namespace Go.Proofs.YtdkeiadpnnleoaaGreat
open Go.RowKit
attribute [local irreducible] wpQuiet
theorem PtsAt.has {W : World} {B : Nat} {cs : Array Value} {t : TypeId} {l : List Pt} {cap : Nat} (h : Has W B cs t) (hl : l.length ≤ 70368744177663) (hcs : cs = (ptCells l).toArray) :
    PtsAt W.heap.size W (.slice (some ⟨B,0,none⟩) l.length (l.length + cap)) l:=by
  subst hcs
  refine ⟨hl,some ⟨B,0,none⟩,cap,rfl,.inr ⟨B,0,rfl,h.lt,fun j hj => ?_⟩⟩
  obtain ⟨f0,f1⟩:=ptCells_get l j hj
  rw [Nat.zero_add]
  exact ⟨h.cell (by simpa using f0),h.cell (by simpa using f1)⟩
theorem Has.alloc {W : World} {B : Nat} {cs : Array Value} {t : TypeId} (h : Has W B cs t) (o : Obj) : Has (W.alloc o) B cs t :=
  h.below ((Below.refl W.heap.size W).alloc (Nat.le_refl _) o) h.lt
theorem RocksAt.has {W : World} {B : Nat} {cs : Array Value} {t : TypeId} {ls : List (List Pt)} {cap : Nat} (h : Has W B cs t) (hl : ls.length ≤ 70368744177663)
    (hcs : ∀ j,j < ls.length → ∃ u,cs[j]? = some u ∧ PtsAt W.heap.size W u (rk ls j)) :
    RocksAt W.heap.size W (.slice (some ⟨B,0,none⟩) ls.length (ls.length + cap)) ls:=by
  refine ⟨hl,some ⟨B,0,none⟩,cap,rfl,.inr ⟨B,0,rfl,h.lt,fun j hj => ?_⟩⟩
  obtain ⟨u,hu,hp⟩:=hcs j hj
  exact ⟨u,h.cell (by rw [Nat.zero_add]; exact hu),hp⟩
end Go.Proofs.YtdkeiadpnnleoaaGreat
namespace Go.Proofs.YtdkeiadpnnleoaaGreat
theorem hitTo_some {c : List Pt} {ls : List (List Pt)} : ∀ {k i}, hitTo c ls k = some i → i < k ∧ touchB c (rk ls i) = true ∧ ∀ j, j < i → touchB c (rk ls j) = false
  | 0,i,h => by cases h
  | k + 1, i, h => by
    simp only [hitTo] at h
    cases hk : hitTo c ls k with
    | some q =>
      rw [hk] at h
      simp only [Option.isSome_some,if_true] at h
      cases h
      obtain ⟨h1,h2,h3⟩:=hitTo_some hk
      exact ⟨by omega,h2,h3⟩
    | none =>
      rw [hk] at h
      simp only [Option.isSome_none,Bool.false_eq_true,if_false] at h
      split at h
      · cases h
        refine ⟨by omega,by assumption,fun j hj => ?_⟩
        exact hitTo_none hk j hj
      · cases h
where
  hitTo_none {c : List Pt} {ls : List (List Pt)} : ∀ {k},hitTo c ls k = none → ∀ j,j < k → touchB c (rk ls j) = false
  | 0,_,j,hj => by omega
  | k + 1, h, j, hj => by
    simp only [hitTo] at h
    cases hk : hitTo c ls k with
    | some q => rw [hk] at h; cases h
    | none =>
      rw [hk] at h
      simp only [Option.isSome_none,Bool.false_eq_true,if_false] at h
      split at h
      · cases h
      · rename_i ht
        by_cases e : j = k
        · rw [e]; simpa using ht
        · exact hitTo_none hk j (by omega)
theorem hitTo_none {c : List Pt} {ls : List (List Pt)} {k : Nat} (h : hitTo c ls k = none) : ∀ j,j < k → touchB c (rk ls j) = false:=hitTo_some.hitTo_none h
theorem rk_take {ls : List (List Pt)} {n j : Nat} (h : j < n) : rk (ls.take n) j = rk ls j:=by
  unfold rk; simp [List.getD_eq_getElem?_getD,h]
theorem RocksAt.take {n0 : Nat} {W : World} {a : Option Addr} {ls : List (List Pt)} {cap : Nat} (h : RocksAt n0 W (.slice a ls.length (ls.length + cap)) ls) {n : Nat} (hn : n ≤ ls.length) :
    RocksAt n0 W (.slice a n (ls.length + cap)) (ls.take n):=by
  obtain ⟨hl,a',cap',he,hc⟩:=h
  have e : (ls.take n).length = n:=by simp; omega
  simp only [Value.slice.injEq] at he
  obtain ⟨rfl,_,hcap⟩:=he
  refine ⟨by omega,a,ls.length - n + cap,by rw [e,show n + (ls.length - n + cap) = ls.length + cap by omega],?_⟩
  rcases hc with rfl | ⟨b,o,rfl,hb,hcc⟩
  · left; simp
  · refine .inr ⟨b,o,rfl,hb,fun j hj => ?_⟩
    rw [e] at hj
    rw [rk_take hj]
    exact hcc j (by omega)
theorem RocksAt.one {n0 : Nat} {W : World} {b o : Nat} {ls : List (List Pt)} {cap cap1 : Nat} (h : RocksAt n0 W (.slice (some ⟨b,o,none⟩) ls.length (ls.length + cap)) ls) {i : Nat} (hi : i < ls.length) :
    RocksAt n0 W (.slice (some ⟨b,o + i,none⟩) 1 (1 + cap1)) [rk ls i]:=by
  obtain ⟨hl,a',cap',he,hc⟩:=h
  simp only [Value.slice.injEq] at he
  obtain ⟨rfl,_,hcap⟩:=he
  refine ⟨by simp,some ⟨b,o + i,none⟩,cap1,rfl,?_⟩
  rcases hc with rfl | ⟨b',o',e,hb,hcc⟩
  · simp at hi
  · cases e
    refine .inr ⟨b,o + i,rfl,hb,fun j hj => ?_⟩
    obtain rfl : j = 0:=by simpa using hj
    exact hcc i hi
end Go.Proofs.YtdkeiadpnnleoaaGreat
namespace Go.Proofs.YtdkeiadpnnleoaaGreat
theorem frameP_ne (a b : Pt) (s t : Int) : frameP a b s t ≠ []:=by unfold frameP; simp
theorem crossST_ne {S T : Pt × Pt} : crossST S T ≠ [] ↔ CrossS S T:=by
  unfold crossST CrossS
  split
  · exact ⟨fun _ => by assumption,fun _ => frameP_ne _ _ _ _⟩
  · rename_i h; exact ⟨fun h' => absurd rfl h',fun h' => absurd h' h⟩
theorem crossP_ne {l m : List Pt} : crossP l m ≠ [] ↔ ∃ i j,i < l.length ∧ j < m.length ∧ CrossS (sideP l i) (sideP m j):=by
  unfold crossP crossL rowS sidesL
  constructor
  · intro h
    obtain ⟨x,hx⟩:=List.exists_mem_of_ne_nil _ h
    simp only [List.mem_flatMap,mem_upto] at hx
    obtain ⟨S,⟨i,hi,rfl⟩,T,⟨j,hj,rfl⟩,hx⟩:=hx
    exact ⟨i,j,hi,hj,crossST_ne.1 (List.ne_nil_of_mem hx)⟩
  · rintro ⟨i,j,hi,hj,h⟩
    obtain ⟨x,hx⟩:=List.exists_mem_of_ne_nil _ (crossST_ne.2 h)
    refine List.ne_nil_of_mem (a:=x) ?_
    simp only [List.mem_flatMap,mem_upto]
    exact ⟨_,⟨i,hi,rfl⟩,_,⟨j,hj,rfl⟩,hx⟩
theorem goValid_of {l : List Pt} (h : GoValid l) : goValid l = true:=by simpa [goValid] using h
theorem hasB_iff {l : List Pt} {x : Pt} (hl : GoValid l) (hx : placeP x = true) : hasB l x = true ↔ inside l x = true:=by
  unfold hasB; rw [goValid_of hl,hx]; simp
theorem cornersP_ne {l m : List Pt} (hl : GoValid l) (hm : GoValid m) : cornersP l m ≠ [] ↔ ∃ k,k < l.length ∧ inside m (nth l k) = true:=by
  constructor
  · intro h
    obtain ⟨x,hx⟩:=List.exists_mem_of_ne_nil _ h
    obtain ⟨k,hk,rfl,hb⟩:=(mem_cornersTo _).1 hx
    exact ⟨k,hk,(hasB_iff hm (hl.2.2.1 k hk).1).1 hb⟩
  · rintro ⟨k,hk,h⟩
    exact List.ne_nil_of_mem ((mem_cornersTo _).2 ⟨k,hk,rfl,(hasB_iff hm (hl.2.2.1 k hk).1).2 h⟩)
theorem touchB_iff {l m : List Pt} (hl : GoValid l) (hm : GoValid m) : touchB l m = true ↔ Touch l m:=by
  unfold touchB
  rw [goValid_of hl,goValid_of hm]
  simp only [Bool.and_true,Bool.true_and,Bool.not_eq_true',decide_eq_false_iff_not]
  rw [show ((sharedP l m).length = 0) = (sharedP l m = []) from propext List.length_eq_zero_iff]
  unfold sharedP Touch
  rw [← cornersP_ne hl hm,← cornersP_ne hm hl,← crossP_ne]
  by_cases h1 : cornersP l m = []
  · by_cases h2 : cornersP m l = []
    · by_cases h3 : crossP l m = []
      · simp [h1,h2,h3]
      · simp [h1,h2,h3]
    · simp [h2]
  · simp [h1]
theorem clear_has {c p : List Pt} (hc : goValid c = true) (hp : goValid p = true) (h : touchB c p = false) {x : Pt} (hx : hasB c x = true) : hasB p x = false:=by
  cases hb : hasB p x
  · rfl
  have gc:=goValid_true hc
  have gp:=goValid_true hp
  unfold hasB at hx hb
  simp only [Bool.and_eq_true] at hx hb
  have:=(touchB_iff gc gp).2 (touch_point gc gp (X:=x.x) (Y:=x.y) (W:=1) (by omega) (inH_of_inside gc hx.2) (inH_of_inside gp hb.2))
  rw [this] at h; cases h
theorem inH_corners {l : List Pt} (hl : GoValid l) {X Y W : Int} (h : InH l X Y W) : ∃ a b c : Nat, a < l.length ∧ b < l.length ∧ c < l.length ∧ ∃ K r s t : Int, 0 < K ∧ 0 ≤ r ∧ 0 ≤ s ∧ 0 ≤ t ∧
    K * X = r * (nth l a).x + s * (nth l b).x + t * (nth l c).x ∧ K * Y = r * (nth l a).y + s * (nth l b).y + t * (nth l c).y ∧ K * W = r + s + t:=by
  have l1:=hl.1
  unfold InH at h
  by_cases h3 : l.length < 3
  · rw [if_pos h3] at h
    obtain ⟨K,s,t,hK,hs,ht,e1,e2,e3⟩:=h
    exact ⟨0,l.length - 1,0,by omega,by omega,by omega,K,s,t,0,hK,hs,ht,by omega,by omega,by omega,by omega⟩
  · rw [if_neg h3] at h
    have hc:=hl.conv (by omega)
    have g : ∃ k,1 ≤ k ∧ k + 1 < l.length ∧ 0 ≤ hturn (nth l 0) (nth l k) X Y W ∧ hturn (nth l 0) (nth l (k + 1)) X Y W ≤ 0:=by
      have f1 : 0 ≤ hturn (nth l 0) (nth l 1) X Y W:=by have:=h 0 (by omega); unfold sideP at this; rwa [Nat.mod_eq_of_lt (by omega)] at this
      have fn : hturn (nth l 0) (nth l (l.length - 1)) X Y W ≤ 0:=by
        have:=h (l.length - 1) (by omega)
        unfold sideP at this
        rw [show l.length - 1 + 1 = l.length by omega,Nat.mod_self] at this
        have this' : 0 ≤ hturn (nth l (l.length - 1)) (nth l 0) X Y W:=this
        have e : hturn (nth l 0) (nth l (l.length - 1)) X Y W = -hturn (nth l (l.length - 1)) (nth l 0) X Y W:=by unfold hturn; grind
        omega
      have step : ∀ d k,1 ≤ k → k + d = l.length - 1 → 0 ≤ hturn (nth l 0) (nth l k) X Y W → (k < l.length - 1) → ∃ k,1 ≤ k ∧ k + 1 < l.length ∧ 0 ≤ hturn (nth l 0) (nth l k) X Y W ∧ hturn (nth l 0) (nth l (k + 1)) X Y W ≤ 0:=fun d => by
        induction d with
        | zero => intro k h1 h2 h4 h5; omega
        | succ d ih =>
          intro k h1 h2 h4 h5
          rcases Int.lt_or_le 0 (hturn (nth l 0) (nth l (k + 1)) X Y W) with h' | h'
          · by_cases e : k + 1 = l.length - 1
            · rw [e] at h'; omega
            · exact ih (k + 1) (by omega) (by omega) (by omega) (by omega)
          · exact ⟨k,h1,by omega,h4,h'⟩
      exact step (l.length - 2) 1 (by omega) (by omega) f1 (by omega)
    obtain ⟨k,k1,k2,p,q⟩:=g
    have r:=h k (by omega)
    unfold sideP at r
    rw [Nat.mod_eq_of_lt (by omega)] at r
    have T:=hc.left k (by omega) 0 (by omega) (by omega) (by rw [Nat.mod_eq_of_lt (by omega)]; omega)
    rw [Nat.mod_eq_of_lt (by omega)] at T
    refine ⟨0,k,k + 1,by omega,by omega,by omega,turnP (nth l k) (nth l (k + 1)) (nth l 0),hturn (nth l k) (nth l (k + 1)) X Y W,-hturn (nth l 0) (nth l (k + 1)) X Y W,hturn (nth l 0) (nth l k) X Y W,T,r,by omega,p,?_,?_,?_⟩
    all_goals generalize nth l 0 = a at *
    all_goals generalize nth l k = b at *
    all_goals generalize nth l (k + 1) = c at *
    · unfold turnP turnV hturn; grind
    · unfold turnP turnV hturn; grind
    · unfold turnP turnV hturn; grind
theorem inH_within {l m : List Pt} (hl : GoValid l) (h : ∀ k,k < l.length → inside m (nth l k) = true) (hm : GoValid m) {X Y W : Int} (hx : InH l X Y W) : InH m X Y W:=by
  obtain ⟨a,b,c,ha,hb,hc,K,r,s,t,hK,hr,hs,ht,e1,e2,e3⟩:=inH_corners hl hx
  have ia:=inH_of_inside hm (h a ha)
  have ib:=inH_of_inside hm (h b hb)
  have ic:=inH_of_inside hm (h c hc)
  have i1 : InH m (r * (nth l a).x + s * (nth l b).x) (r * (nth l a).y + s * (nth l b).y) (r + s):=inH_mix (K:=1) (by omega) hr hs (by omega) (by omega) (by omega) ia ib
  exact inH_mix (s:=1) (t:=t) hK (by omega) ht (by omega) (by omega) (by omega) i1 ic
end Go.Proofs.YtdkeiadpnnleoaaGreat
namespace Go.Proofs.YtdkeiadpnnleoaaGreat
def mvP (b x : Pt) : Pt:=⟨x.x + b.x,x.y + b.y⟩
def mvL (b : Pt) (l : List Pt) : List Pt:=l.map (mvP b)
def mvS (b : Pt) (s : Pt × Pt) : Pt × Pt:=(mvP b s.1,mvP b s.2)
theorem mvL_len (b : Pt) (l : List Pt) : (mvL b l).length = l.length:=by simp [mvL]
theorem nth_mvL (b : Pt) {l : List Pt} {k : Nat} (h : k < l.length) : nth (mvL b l) k = mvP b (nth l k):=by
  simp [mvL,nth,List.getD_eq_getElem?_getD,List.getElem?_eq_getElem h]
theorem turn_mv (b p q r : Pt) : turnP (mvP b p) (mvP b q) (mvP b r) = turnP p q r:=by unfold turnP turnV mvP; grind
theorem side_mv (b : Pt) {l : List Pt} {k : Nat} (h : k < l.length) : sideP (mvL b l) k = mvS b (sideP l k):=by
  unfold sideP mvS
  rw [mvL_len,nth_mvL b h,nth_mvL b (Nat.mod_lt _ (by omega))]
theorem place_iff {p : Pt} : placeP p = true ↔ -500000 ≤ p.x ∧ p.x ≤ 500000 ∧ -500000 ≤ p.y ∧ p.y ≤ 500000:=by simp [placeP,placeB]
theorem cmp_mv (b p q : Pt) : cmpP (mvP b p) (mvP b q) = cmpP p q:=by
  have c : ∀ u v w : Int, cmpI (u + w) (v + w) = cmpI u v := fun u v w => by unfold cmpI; repeat' split
                                                                             all_goals omega
  simp only [cmpP,cmpV,mvP,c]
section
variable {b : Pt} {l m : List Pt} (hl : goValid l = true) (hm : goValid m = true) (hl' : goValid (mvL b l) = true) (hm' : goValid (mvL b m) = true)
include hl hm hl' hm'
end
end Go.Proofs.YtdkeiadpnnleoaaGreat
