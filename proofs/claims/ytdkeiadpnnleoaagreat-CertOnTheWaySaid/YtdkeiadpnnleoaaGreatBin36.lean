/- landfalllaw36.near, on. -/
import Derived.Test.YtdkeiadpnnleoaaGreatBin28
import Derived.Test.YtdkeiadpnnleoaaGreatBin12
import Derived.Test.YtdkeiadpnnleoaaGreatBin02
import Derived.Test.YtdkeiadpnnleoaaGreatBin10
import Derived.Test.YtdkeiadpnnleoaaGreatBin25
namespace Go.Proofs.YtdkeiadpnnleoaaGreat
open Go.RowKit
attribute [local irreducible] wpQuiet
theorem quo36_bd {a n M : Int} (h1 : -M ≤ a) (h2 : a ≤ M) : -M ≤ a.tdiv n ∧ a.tdiv n ≤ M:=by
  have h:=Int.natAbs_tdiv_le_natAbs a n
  omega
theorem rem36_bd {a n : Int} {M : Int} (h1 : -M ≤ a) (h2 : a ≤ M) : -M ≤ a.tmod n ∧ a.tmod n ≤ M:=by
  have h:=Int.natAbs_tmod a n
  have h3:=Nat.mod_le a.natAbs n.natAbs
  omega
set_option linter.unusedSimpArgs false in
set_option linter.unusedVariables false in
set_option maxRecDepth 8000 in
set_option maxHeartbeats 3200000 in
theorem near36_any (a b : Pt) (d : Int) (w : World) (ha : placeP a = true) (hb : placeP b = true) (hd : 0 ≤ d ∧ d ≤ 100000) :
    Calls Tryz.prog 58 #[.agg #[.int .i64 a.x,.int .i64 a.y],.agg #[.int .i64 b.x,.int .i64 b.y],.int .i64 d] w fun e w' => e = .returned (.bool (decide ((a.x - b.x) * (a.x - b.x) + (a.y - b.y) * (a.y - b.y) ≤ d * d))) ∧ Below w.heap.size w w':=by
  have pa:=placeB_true ha
  have pb:=placeB_true hb
  generalize a.x = ax at *
  generalize a.y = ay at *
  generalize b.x = bx at *
  generalize b.y = by' at *
  have q1:=prod_bd (a:=ax - bx) (b:=ax - bx) (m:=1000000) (n:=1000000) (by omega) (by omega) (by omega) (by omega)
  have q2:=prod_bd (a:=ay - by') (b:=ay - by') (m:=1000000) (n:=1000000) (by omega) (by omega) (by omega) (by omega)
  have q3:=prod_bd (a:=d) (b:=d) (m:=100000) (n:=100000) (by omega) (by omega) (by omega) (by omega)
  have w1 : IntKind.i64.wrap (ax - bx) = ax - bx:=IntWalk.i64_in _ (by omega)
  have w2 : IntKind.i64.wrap (ay - by') = ay - by':=IntWalk.i64_in _ (by omega)
  have w3 : IntKind.i64.wrap ((ax - bx) * (ax - bx)) = (ax - bx) * (ax - bx):=IntWalk.i64_in _ (by omega)
  have w4 : IntKind.i64.wrap ((ay - by') * (ay - by')) = (ay - by') * (ay - by'):=IntWalk.i64_in _ (by omega)
  have w5 : IntKind.i64.wrap ((ax - bx) * (ax - bx) + (ay - by') * (ay - by')) = (ax - bx) * (ax - bx) + (ay - by') * (ay - by'):=IntWalk.i64_in _ (by omega)
  have w6 : IntKind.i64.wrap (d * d) = d * d:=IntWalk.i64_in _ (by omega)
  clear pa pb ha hb hd q1 q2 q3
  go_enter Tryz.func58,Tryz.ntmps58
  have BW:=Lib.hid (Below.refl w.heap.size w)
  go_upto_region 1 with fail
  generalize hXX0 : World.alloc (World.alloc w _) _ = X0
  obtain ⟨q0,q1,hA,hzX0⟩:=box2 hXX0
  clear hXX0
  have BW:=Lib.hid hA
  clear hA
  have AB:=Lib.hid q0
  clear q0
  have BB:=Lib.hid q1
  clear q1
  clear hzX0
  have e0:=AB.out.cell (i:=0) rfl
  have e1:=AB.out.cell (i:=1) rfl
  have d0:=BB.out.cell (i:=0) rfl
  have d1:=BB.out.cell (i:=1) rfl
  go_wp2
  go_ret
  exact ⟨rfl,BW.out⟩
set_option linter.unusedSimpArgs false in
set_option linter.unusedVariables false in
set_option maxRecDepth 8000 in
set_option maxHeartbeats 3200000 in
theorem on36_any (a b : Pt) (k n : Nat) (w : World) (ha : placeP a = true) (hb : placeP b = true) (hk : k ≤ 255) (hn : 0 < n) (hn2 : n ≤ 255) :
    Calls Tryz.prog 57 #[.agg #[.int .i64 a.x,.int .i64 a.y],.agg #[.int .i64 b.x,.int .i64 b.y],.int .i64 k,.int .i64 n] w fun e w' => e = .returned (.tuple #[.agg #[.int .i64 (a.x + ((b.x - a.x) * k).tdiv n),.int .i64 (a.y + ((b.y - a.y) * k).tdiv n)],.bool (decide (((b.x - a.x) * k).tmod n = 0) && decide (((b.y - a.y) * k).tmod n = 0))]) ∧ Below w.heap.size w w':=by
  have pa:=placeB_true ha
  have pb:=placeB_true hb
  generalize a.x = ax at *
  generalize a.y = ay at *
  generalize b.x = bx at *
  generalize b.y = by' at *
  have q1:=prod_bd (a:=bx - ax) (b:=(k : Int)) (m:=1000000) (n:=255) (by omega) (by omega) (by omega) (by omega)
  have q2:=prod_bd (a:=by' - ay) (b:=(k : Int)) (m:=1000000) (n:=255) (by omega) (by omega) (by omega) (by omega)
  have w1 : IntKind.i64.wrap (bx - ax) = bx - ax:=IntWalk.i64_in _ (by omega)
  have w2' : IntKind.i64.wrap (by' - ay) = by' - ay:=IntWalk.i64_in _ (by omega)
  obtain ⟨dx,hdx⟩ : ∃ x,(bx - ax) * (k : Int) = x:=⟨_,rfl⟩
  obtain ⟨dy,hdy⟩ : ∃ x,(by' - ay) * (k : Int) = x:=⟨_,rfl⟩
  rw [hdx] at q1
  rw [hdy] at q2
  have w3 : IntKind.i64.wrap ((bx - ax) * (k : Int)) = dx:=by rw [hdx]; exact IntWalk.i64_in _ (by omega)
  have w4 : IntKind.i64.wrap ((by' - ay) * (k : Int)) = dy:=by rw [hdy]; exact IntWalk.i64_in _ (by omega)
  rw [hdx,hdy]
  clear hdx hdy
  have t1:=quo36_bd (n:=(n : Int)) q1.1 q1.2
  have t2:=quo36_bd (n:=(n : Int)) q2.1 q2.2
  have m1:=rem36_bd (n:=(n : Int)) q1.1 q1.2
  have m2:=rem36_bd (n:=(n : Int)) q2.1 q2.2
  obtain ⟨ex,hex⟩ : ∃ x,dx.tdiv (n : Int) = x:=⟨_,rfl⟩
  obtain ⟨ey,hey⟩ : ∃ x,dy.tdiv (n : Int) = x:=⟨_,rfl⟩
  obtain ⟨rx,hrx⟩ : ∃ x,dx.tmod (n : Int) = x:=⟨_,rfl⟩
  obtain ⟨ry,hry⟩ : ∃ x,dy.tmod (n : Int) = x:=⟨_,rfl⟩
  rw [hex] at t1
  rw [hey] at t2
  rw [hrx] at m1
  rw [hry] at m2
  rw [hex,hey,hrx,hry]
  have w5 : IntKind.i64.wrap ex = ex:=IntWalk.i64_in _ (by omega)
  have w6 : IntKind.i64.wrap ey = ey:=IntWalk.i64_in _ (by omega)
  have w7 : IntKind.i64.wrap rx = rx:=IntWalk.i64_in _ (by omega)
  have w8 : IntKind.i64.wrap ry = ry:=IntWalk.i64_in _ (by omega)
  have w9 : IntKind.i64.wrap (ax + ex) = ax + ex:=IntWalk.i64_in _ (by omega)
  have w10 : IntKind.i64.wrap (ay + ey) = ay + ey:=IntWalk.i64_in _ (by omega)
  have nz : ((n : Int) == 0) = false:=by rw [beq_eq_false_iff_ne]; omega
  have nz' : ¬ ((n : Int) = 0):=by omega
  have nz2 : ¬ (n = 0):=by omega
  clear pa pb ha hb q1 q2 t1 t2 m1 m2 hk hn2 hn
  have BW:=Lib.hid (Below.refl w.heap.size w)
  go_enter Tryz.func57,Tryz.ntmps57
  go_upto_region 1 with fail
  generalize hXX0 : World.alloc (World.alloc (World.alloc w _) _) _ = X0
  obtain ⟨q0,q1,q2,hA,hzX0⟩:=box3 hXX0
  clear hXX0
  have BW:=Lib.hid hA
  clear hA
  have AB:=Lib.hid q0
  clear q0
  have BB:=Lib.hid q1
  clear q1
  have RB:=Lib.hid q2
  clear q2
  clear hzX0
  have e0:=Low.fact (AB.out.cell (i:=0) rfl)
  have e1:=Low.fact (AB.out.cell (i:=1) rfl)
  have d0:=Low.fact (BB.out.cell (i:=0) rfl)
  have d1:=Low.fact (BB.out.cell (i:=1) rfl)
  (refine wp_region_low (by kernel_rfl) (by kernel_rfl) ?_; (iterate 16 (apply quiet_want; (case hw => rfl); (case hval => (intro w1 hw1; have hcx:=Low.cells hw1; simp only [Oper.quietAt]; go_simp; first | done | (first | fail) | rfl | exact ⟨rfl,rfl⟩)); simp only [Act.put,List.setIfInBounds_toArray,List.set_cons_zero,List.set_cons_succ])); refine wpQuiet_nil ?_; intro w2 hw2)
  obtain ⟨wa,hwa⟩ : ∃ x,x = w2:=⟨_,rfl⟩
  subst hwa
  have hA : Below X0.heap.size X0 wa:=hw2.out
  replace e0:=Low.fact (e0 _ hw2)
  replace e1:=Low.fact (e1 _ hw2)
  clear hw2 d0 d1
  replace BW:=Lib.hid (BW.out.trans (hA.mono BW.out.size))
  have B_X0:=Lib.hid hA
  clear hA
  have HR:=Lib.hid (RB.out.below B_X0.out RB.out.lt)
  go_upto_region 2 with fail
  by_cases hz : rx = 0
  · skip
    have dz : (rx == 0) = true:=by rw [beq_iff_eq]; exact hz
    have HD:=Lib.hid (decide_eq_true hz)
    clear hz
    have HAx:=(AB.out.below B_X0.out AB.out.lt)
    refine (wpIn_wide (n:=9)).1 ?_
    refine wpIn_region_sched (lets_wide _) 24 (fun X => Has X w.heap.size #[.int .i64 ax,.int .i64 ay] 36) (by kernel_rfl) (by kernel_rfl) (by kernel_rfl) fun hH inv0 => ?_
    have hD:=Below.drew (Below.refl wa.heap.size wa)
    have hAX:=HAx.below hD HAx.lt
    have hRB:=HR.out.below hD HR.out.lt
    have BX:=BW.out.trans (hD.mono BW.out.size)
    generalize hXX1 : wa.drew = X1 at *
    clear hXX1 hD
    refine sched_take hH (i:=0) (v:=.pointer (some ⟨w.heap.size,0,none⟩)) (drop_get rfl) (by omega) inv0 (by kernel_rfl) (by kernel_rfl) rfl (fun X hX => ?_) fun inv1 => ?_
    · go_simp
    simp only [Act.put,List.setIfInBounds_toArray,List.set_cons_zero,List.set_cons_succ]
    clear inv0
    refine sched_take hH (i:=1) (v:=.int .i64 ax) (drop_get rfl) (by omega) inv1 (by kernel_rfl) (by kernel_rfl) rfl (fun X hX => ?_) fun inv2 => ?_
    · have r0:=hX.cell (i:=0) rfl; go_simp
    simp only [Act.put,List.setIfInBounds_toArray,List.set_cons_zero,List.set_cons_succ]
    clear inv1
    refine sched_take hH (i:=2) (v:=.int .i64 dx) (drop_get rfl) (by omega) inv2 (by kernel_rfl) (by kernel_rfl) rfl (fun X hX => ?_) fun inv3 => ?_
    · go_simp
    simp only [Act.put,List.setIfInBounds_toArray,List.set_cons_zero,List.set_cons_succ]
    clear inv2
    refine sched_take hH (i:=3) (v:=.int .i64 (n : Int)) (drop_get rfl) (by omega) inv3 (by kernel_rfl) (by kernel_rfl) rfl (fun X hX => ?_) fun inv4 => ?_
    · go_simp
    simp only [Act.put,List.setIfInBounds_toArray,List.set_cons_zero,List.set_cons_succ]
    clear inv3
    refine sched_take hH (i:=4) (v:=.int .i64 ex) (drop_get rfl) (by omega) inv4 (by kernel_rfl) (by kernel_rfl) rfl (fun X hX => ?_) fun inv5 => ?_
    · go_simp
    simp only [Act.put,List.setIfInBounds_toArray,List.set_cons_zero,List.set_cons_succ]
    clear inv4
    refine sched_take hH (i:=5) (v:=.int .i64 (ax + ex)) (drop_get rfl) (by omega) inv5 (by kernel_rfl) (by kernel_rfl) rfl (fun X hX => ?_) fun inv6 => ?_
    · go_simp
    simp only [Act.put,List.setIfInBounds_toArray,List.set_cons_zero,List.set_cons_succ]
    clear inv5
    refine sched_take hH (i:=6) (v:=.pointer (some ⟨w.heap.size,1,none⟩)) (drop_get rfl) (by omega) inv6 (by kernel_rfl) (by kernel_rfl) rfl (fun X hX => ?_) fun inv7 => ?_
    · go_simp
    simp only [Act.put,List.setIfInBounds_toArray,List.set_cons_zero,List.set_cons_succ]
    clear inv6
    refine sched_take hH (i:=7) (v:=.int .i64 ay) (drop_get rfl) (by omega) inv7 (by kernel_rfl) (by kernel_rfl) rfl (fun X hX => ?_) fun inv8 => ?_
    · have r0:=hX.cell (i:=1) rfl; go_simp
    simp only [Act.put,List.setIfInBounds_toArray,List.set_cons_zero,List.set_cons_succ]
    clear inv7
    refine sched_take hH (i:=8) (v:=.int .i64 dy) (drop_get rfl) (by omega) inv8 (by kernel_rfl) (by kernel_rfl) rfl (fun X hX => ?_) fun inv9 => ?_
    · go_simp
    simp only [Act.put,List.setIfInBounds_toArray,List.set_cons_zero,List.set_cons_succ]
    clear inv8
    refine sched_take hH (i:=9) (v:=.int .i64 (n : Int)) (drop_get rfl) (by omega) inv9 (by kernel_rfl) (by kernel_rfl) rfl (fun X hX => ?_) fun inv10 => ?_
    · go_simp
    simp only [Act.put,List.setIfInBounds_toArray,List.set_cons_zero,List.set_cons_succ]
    clear inv9
    refine sched_take hH (i:=10) (v:=.int .i64 ey) (drop_get rfl) (by omega) inv10 (by kernel_rfl) (by kernel_rfl) rfl (fun X hX => ?_) fun inv11 => ?_
    · go_simp
    simp only [Act.put,List.setIfInBounds_toArray,List.set_cons_zero,List.set_cons_succ]
    clear inv10
    refine sched_take hH (i:=11) (v:=.int .i64 (ay + ey)) (drop_get rfl) (by omega) inv11 (by kernel_rfl) (by kernel_rfl) rfl (fun X hX => ?_) fun inv12 => ?_
    · go_simp
    simp only [Act.put,List.setIfInBounds_toArray,List.set_cons_zero,List.set_cons_succ]
    clear inv11
    refine sched_take hH (i:=12) (v:=.agg #[.int .i64 (ax + ex),.int .i64 (ay + ey)]) (drop_get rfl) (by omega) inv12 (by kernel_rfl) (by kernel_rfl) rfl (fun X hX => ?_) fun inv13 => ?_
    · go_simp
    simp only [Act.put,List.setIfInBounds_toArray,List.set_cons_zero,List.set_cons_succ]
    clear inv12
    refine sched_take hH (i:=13) (v:=.int .i64 dx) (drop_get rfl) (by omega) inv13 (by kernel_rfl) (by kernel_rfl) rfl (fun X hX => ?_) fun inv14 => ?_
    · go_simp
    simp only [Act.put,List.setIfInBounds_toArray,List.set_cons_zero,List.set_cons_succ]
    clear inv13
    refine sched_take hH (i:=14) (v:=.int .i64 (n : Int)) (drop_get rfl) (by omega) inv14 (by kernel_rfl) (by kernel_rfl) rfl (fun X hX => ?_) fun inv15 => ?_
    · go_simp
    simp only [Act.put,List.setIfInBounds_toArray,List.set_cons_zero,List.set_cons_succ]
    clear inv14
    refine sched_take hH (i:=15) (v:=.int .i64 rx) (drop_get rfl) (by omega) inv15 (by kernel_rfl) (by kernel_rfl) rfl (fun X hX => ?_) fun inv16 => ?_
    · go_simp
    simp only [Act.put,List.setIfInBounds_toArray,List.set_cons_zero,List.set_cons_succ]
    clear inv15
    refine sched_take hH (i:=16) (v:=.bool true) (drop_get rfl) (by omega) inv16 (by kernel_rfl) (by kernel_rfl) rfl (fun X hX => ?_) fun inv17 => ?_
    · go_simp
    simp only [Act.put,List.setIfInBounds_toArray,List.set_cons_zero,List.set_cons_succ]
    clear inv16
    refine sched_take hH (i:=17) (v:=.bool true) (drop_get rfl) (by omega) inv17 (by kernel_rfl) (by kernel_rfl) rfl (fun X hX => ?_) fun inv18 => ?_
    · go_simp
    simp only [Act.put,List.setIfInBounds_toArray,List.set_cons_zero,List.set_cons_succ]
    clear inv17
    refine sched_take hH (i:=18) (v:=.int .i64 dy) (drop_get rfl) (by omega) inv18 (by kernel_rfl) (by kernel_rfl) rfl (fun X hX => ?_) fun inv19 => ?_
    · go_simp
    simp only [Act.put,List.setIfInBounds_toArray,List.set_cons_zero,List.set_cons_succ]
    clear inv18
    refine sched_take hH (i:=19) (v:=.int .i64 (n : Int)) (drop_get rfl) (by omega) inv19 (by kernel_rfl) (by kernel_rfl) rfl (fun X hX => ?_) fun inv20 => ?_
    · go_simp
    simp only [Act.put,List.setIfInBounds_toArray,List.set_cons_zero,List.set_cons_succ]
    clear inv19
    refine sched_take hH (i:=20) (v:=.int .i64 ry) (drop_get rfl) (by omega) inv20 (by kernel_rfl) (by kernel_rfl) rfl (fun X hX => ?_) fun inv21 => ?_
    · go_simp
    simp only [Act.put,List.setIfInBounds_toArray,List.set_cons_zero,List.set_cons_succ]
    clear inv20
    refine sched_take hH (i:=21) (v:=.bool (ry == 0)) (drop_get rfl) (by omega) inv21 (by kernel_rfl) (by kernel_rfl) rfl (fun X hX => ?_) fun inv22 => ?_
    · go_simp
    simp only [Act.put,List.setIfInBounds_toArray,List.set_cons_zero,List.set_cons_succ]
    clear inv21
    refine sched_take hH (i:=22) (v:=.bool (ry == 0)) (drop_get rfl) (by omega) inv22 (by kernel_rfl) (by kernel_rfl) rfl (fun X hX => ?_) fun inv23 => ?_
    · go_simp
    simp only [Act.put,List.setIfInBounds_toArray,List.set_cons_zero,List.set_cons_succ]
    clear inv22
    have inv24:=HeadInv.put2 inv23 (j:=23) (by kernel_rfl) (by omega)
    clear inv23
    refine sched_all (rs:=[23]) (by kernel_rfl) (by simp) hAX (by simp) (fun i hi' => ?_)
    simp only [List.mem_cons,List.not_mem_nil,or_false] at hi'
    subst hi'
    refine okOp_row (drop_get rfl) rfl rfl (g:=w.heap.size + 1 + 1) (cells:=#[.int .i64 (ax + ex),.int .i64 (ay + ey)]) rfl rfl hRB (by kernel_rfl) rfl (by simp [Value.oneCell']) ?_
    simp only [Act.put,List.setIfInBounds_toArray,List.set_cons_zero,List.set_cons_succ]
    have hS:=Has.put (cells:=#[.int .i64 (ax + ex),.int .i64 (ay + ey)]) hRB
    have hA2:=Has.keep (cells:=#[.int .i64 (ax + ex),.int .i64 (ay + ey)]) (C:=w.heap.size + 1 + 1) hAX (by omega)
    have bS:=Below.setRow BX (C:=w.heap.size + 1 + 1) (by omega) #[.int .i64 (ax + ex),.int .i64 (ay + ey)]
    generalize X1.setRow (w.heap.size + 1 + 1) #[.int .i64 (ax + ex),.int .i64 (ay + ey)] = X2 at *
    refine sched_done (by kernel_rfl) hA2 ?_
    simp only [List.drop_succ_cons,List.drop_zero]
    clear hAX hRB BX hA2 inv24 hH
    gi_wp2
    have s0:=hS.cell (i:=0) rfl
    have s1:=hS.cell (i:=1) rfl
    go_wp2
    exact bodyPost_ret (v:=.tuple #[.agg #[.int .i64 (ax + ex),.int .i64 (ay + ey)],.bool (ry == 0)]) (by simp [results,Tryz.f57,go_sem,s0,s1]) rfl ⟨by rw [HD.out,Bool.true_and,show (ry == 0) = decide (ry = 0) from by rw [Bool.eq_iff_iff]; simp],bS⟩
  · skip
    have dz : (rx == 0) = false:=by rw [beq_eq_false_iff_ne]; exact hz
    have HD:=Lib.hid (decide_eq_false hz)
    clear hz
    have HAx:=(AB.out.below B_X0.out AB.out.lt)
    refine (wpIn_wide (n:=9)).1 ?_
    refine wpIn_region_sched (lets_wide _) 24 (fun X => Has X w.heap.size #[.int .i64 ax,.int .i64 ay] 36) (by kernel_rfl) (by kernel_rfl) (by kernel_rfl) fun hH inv0 => ?_
    have hD:=Below.drew (Below.refl wa.heap.size wa)
    have hAX:=HAx.below hD HAx.lt
    have hRB:=HR.out.below hD HR.out.lt
    have BX:=BW.out.trans (hD.mono BW.out.size)
    generalize hXX1 : wa.drew = X1 at *
    clear hXX1 hD
    refine sched_take hH (i:=0) (v:=.pointer (some ⟨w.heap.size,0,none⟩)) (drop_get rfl) (by omega) inv0 (by kernel_rfl) (by kernel_rfl) rfl (fun X hX => ?_) fun inv1 => ?_
    · go_simp
    simp only [Act.put,List.setIfInBounds_toArray,List.set_cons_zero,List.set_cons_succ]
    clear inv0
    refine sched_take hH (i:=1) (v:=.int .i64 ax) (drop_get rfl) (by omega) inv1 (by kernel_rfl) (by kernel_rfl) rfl (fun X hX => ?_) fun inv2 => ?_
    · have r0:=hX.cell (i:=0) rfl; go_simp
    simp only [Act.put,List.setIfInBounds_toArray,List.set_cons_zero,List.set_cons_succ]
    clear inv1
    refine sched_take hH (i:=2) (v:=.int .i64 dx) (drop_get rfl) (by omega) inv2 (by kernel_rfl) (by kernel_rfl) rfl (fun X hX => ?_) fun inv3 => ?_
    · go_simp
    simp only [Act.put,List.setIfInBounds_toArray,List.set_cons_zero,List.set_cons_succ]
    clear inv2
    refine sched_take hH (i:=3) (v:=.int .i64 (n : Int)) (drop_get rfl) (by omega) inv3 (by kernel_rfl) (by kernel_rfl) rfl (fun X hX => ?_) fun inv4 => ?_
    · go_simp
    simp only [Act.put,List.setIfInBounds_toArray,List.set_cons_zero,List.set_cons_succ]
    clear inv3
    refine sched_take hH (i:=4) (v:=.int .i64 ex) (drop_get rfl) (by omega) inv4 (by kernel_rfl) (by kernel_rfl) rfl (fun X hX => ?_) fun inv5 => ?_
    · go_simp
    simp only [Act.put,List.setIfInBounds_toArray,List.set_cons_zero,List.set_cons_succ]
    clear inv4
    refine sched_take hH (i:=5) (v:=.int .i64 (ax + ex)) (drop_get rfl) (by omega) inv5 (by kernel_rfl) (by kernel_rfl) rfl (fun X hX => ?_) fun inv6 => ?_
    · go_simp
    simp only [Act.put,List.setIfInBounds_toArray,List.set_cons_zero,List.set_cons_succ]
    clear inv5
    refine sched_take hH (i:=6) (v:=.pointer (some ⟨w.heap.size,1,none⟩)) (drop_get rfl) (by omega) inv6 (by kernel_rfl) (by kernel_rfl) rfl (fun X hX => ?_) fun inv7 => ?_
    · go_simp
    simp only [Act.put,List.setIfInBounds_toArray,List.set_cons_zero,List.set_cons_succ]
    clear inv6
    refine sched_take hH (i:=7) (v:=.int .i64 ay) (drop_get rfl) (by omega) inv7 (by kernel_rfl) (by kernel_rfl) rfl (fun X hX => ?_) fun inv8 => ?_
    · have r0:=hX.cell (i:=1) rfl; go_simp
    simp only [Act.put,List.setIfInBounds_toArray,List.set_cons_zero,List.set_cons_succ]
    clear inv7
    refine sched_take hH (i:=8) (v:=.int .i64 dy) (drop_get rfl) (by omega) inv8 (by kernel_rfl) (by kernel_rfl) rfl (fun X hX => ?_) fun inv9 => ?_
    · go_simp
    simp only [Act.put,List.setIfInBounds_toArray,List.set_cons_zero,List.set_cons_succ]
    clear inv8
    refine sched_take hH (i:=9) (v:=.int .i64 (n : Int)) (drop_get rfl) (by omega) inv9 (by kernel_rfl) (by kernel_rfl) rfl (fun X hX => ?_) fun inv10 => ?_
    · go_simp
    simp only [Act.put,List.setIfInBounds_toArray,List.set_cons_zero,List.set_cons_succ]
    clear inv9
    refine sched_take hH (i:=10) (v:=.int .i64 ey) (drop_get rfl) (by omega) inv10 (by kernel_rfl) (by kernel_rfl) rfl (fun X hX => ?_) fun inv11 => ?_
    · go_simp
    simp only [Act.put,List.setIfInBounds_toArray,List.set_cons_zero,List.set_cons_succ]
    clear inv10
    refine sched_take hH (i:=11) (v:=.int .i64 (ay + ey)) (drop_get rfl) (by omega) inv11 (by kernel_rfl) (by kernel_rfl) rfl (fun X hX => ?_) fun inv12 => ?_
    · go_simp
    simp only [Act.put,List.setIfInBounds_toArray,List.set_cons_zero,List.set_cons_succ]
    clear inv11
    refine sched_take hH (i:=12) (v:=.agg #[.int .i64 (ax + ex),.int .i64 (ay + ey)]) (drop_get rfl) (by omega) inv12 (by kernel_rfl) (by kernel_rfl) rfl (fun X hX => ?_) fun inv13 => ?_
    · go_simp
    simp only [Act.put,List.setIfInBounds_toArray,List.set_cons_zero,List.set_cons_succ]
    clear inv12
    refine sched_take hH (i:=13) (v:=.int .i64 dx) (drop_get rfl) (by omega) inv13 (by kernel_rfl) (by kernel_rfl) rfl (fun X hX => ?_) fun inv14 => ?_
    · go_simp
    simp only [Act.put,List.setIfInBounds_toArray,List.set_cons_zero,List.set_cons_succ]
    clear inv13
    refine sched_take hH (i:=14) (v:=.int .i64 (n : Int)) (drop_get rfl) (by omega) inv14 (by kernel_rfl) (by kernel_rfl) rfl (fun X hX => ?_) fun inv15 => ?_
    · go_simp
    simp only [Act.put,List.setIfInBounds_toArray,List.set_cons_zero,List.set_cons_succ]
    clear inv14
    refine sched_take hH (i:=15) (v:=.int .i64 rx) (drop_get rfl) (by omega) inv15 (by kernel_rfl) (by kernel_rfl) rfl (fun X hX => ?_) fun inv16 => ?_
    · go_simp
    simp only [Act.put,List.setIfInBounds_toArray,List.set_cons_zero,List.set_cons_succ]
    clear inv15
    refine sched_take hH (i:=16) (v:=.bool false) (drop_get rfl) (by omega) inv16 (by kernel_rfl) (by kernel_rfl) rfl (fun X hX => ?_) fun inv17 => ?_
    · go_simp
    simp only [Act.put,List.setIfInBounds_toArray,List.set_cons_zero,List.set_cons_succ]
    clear inv16
    refine sched_take hH (i:=17) (v:=.bool false) (drop_get rfl) (by omega) inv17 (by kernel_rfl) (by kernel_rfl) rfl (fun X hX => ?_) fun inv18 => ?_
    · go_simp
    simp only [Act.put,List.setIfInBounds_toArray,List.set_cons_zero,List.set_cons_succ]
    clear inv17
    refine sched_pass hH (i:=18) (drop_get rfl) (by omega) inv18 (by kernel_rfl) (by kernel_rfl) rfl fun inv19 => ?_
    simp only [Act.put,List.setIfInBounds_toArray,List.set_cons_zero,List.set_cons_succ]
    clear inv18
    refine sched_pass hH (i:=19) (drop_get rfl) (by omega) inv19 (by kernel_rfl) (by kernel_rfl) rfl fun inv20 => ?_
    simp only [Act.put,List.setIfInBounds_toArray,List.set_cons_zero,List.set_cons_succ]
    clear inv19
    refine sched_pass hH (i:=20) (drop_get rfl) (by omega) inv20 (by kernel_rfl) (by kernel_rfl) rfl fun inv21 => ?_
    simp only [Act.put,List.setIfInBounds_toArray,List.set_cons_zero,List.set_cons_succ]
    clear inv20
    refine sched_pass hH (i:=21) (drop_get rfl) (by omega) inv21 (by kernel_rfl) (by kernel_rfl) rfl fun inv22 => ?_
    simp only [Act.put,List.setIfInBounds_toArray,List.set_cons_zero,List.set_cons_succ]
    clear inv21
    refine sched_take hH (i:=22) (v:=.bool false) (drop_get rfl) (by omega) inv22 (by kernel_rfl) (by kernel_rfl) rfl (fun X hX => ?_) fun inv23 => ?_
    · go_simp
    simp only [Act.put,List.setIfInBounds_toArray,List.set_cons_zero,List.set_cons_succ]
    clear inv22
    have inv24:=HeadInv.put2 inv23 (j:=23) (by kernel_rfl) (by omega)
    clear inv23
    refine sched_all (rs:=[23]) (by kernel_rfl) (by simp) hAX (by simp) (fun i hi' => ?_)
    simp only [List.mem_cons,List.not_mem_nil,or_false] at hi'
    subst hi'
    refine okOp_row (drop_get rfl) rfl rfl (g:=w.heap.size + 1 + 1) (cells:=#[.int .i64 (ax + ex),.int .i64 (ay + ey)]) rfl rfl hRB (by kernel_rfl) rfl (by simp [Value.oneCell']) ?_
    simp only [Act.put,List.setIfInBounds_toArray,List.set_cons_zero,List.set_cons_succ]
    have hS:=Has.put (cells:=#[.int .i64 (ax + ex),.int .i64 (ay + ey)]) hRB
    have hA2:=Has.keep (cells:=#[.int .i64 (ax + ex),.int .i64 (ay + ey)]) (C:=w.heap.size + 1 + 1) hAX (by omega)
    have bS:=Below.setRow BX (C:=w.heap.size + 1 + 1) (by omega) #[.int .i64 (ax + ex),.int .i64 (ay + ey)]
    generalize X1.setRow (w.heap.size + 1 + 1) #[.int .i64 (ax + ex),.int .i64 (ay + ey)] = X2 at *
    refine sched_done (by kernel_rfl) hA2 ?_
    simp only [List.drop_succ_cons,List.drop_zero]
    clear hAX hRB BX hA2 inv24 hH
    gi_wp2
    have s0:=hS.cell (i:=0) rfl
    have s1:=hS.cell (i:=1) rfl
    go_wp2
    exact bodyPost_ret (v:=.tuple #[.agg #[.int .i64 (ax + ex),.int .i64 (ay + ey)],.bool false]) (by simp [results,Tryz.f57,go_sem,s0,s1]) rfl ⟨by rw [HD.out,Bool.false_and],bS⟩
end Go.Proofs.YtdkeiadpnnleoaaGreat
