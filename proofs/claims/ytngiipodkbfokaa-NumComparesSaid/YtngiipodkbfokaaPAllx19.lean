-- Written by this session's own program wip/ext.py over the kit's print; not the kit's own print.
import Derived.Test.YtngiipodkbfokaaPAllx0
import Derived.Test.YtngiipodkbfokaaPAllx3
import Derived.Test.YtngiipodkbfokaaPAllx17
namespace Go.Proofs.Ytngiipodkbfokaa.PAll
open Go.RowKit Go.Proofs.YtngiipodkbfokaaW.PrintWords Go.Proofs.YtngiipodkbfokaaW.PrintLast Go.Proofs.YtngiipodkbfokaaW.PrintMore
attribute [local go_sem] max2_int min2_int max_two min_two max_three min_three max_four min_four   -- for this text's walks alone
set_option linter.unusedVariables false
set_option linter.unusedSimpArgs false

/-! ### mapsheetsref01_sign: function 43 -/
def mapsheetsref01_sign.f (a0 : Int) (a1 : Int) : Option (Int) := if a0 < a1 then (some (-1)) else (if a0 > a1 then (some 1) else (some 0))
set_option maxHeartbeats 8000000 in
set_option maxRecDepth 100000 in
theorem mapsheetsref01_sign.calls (a0 : Int) (a1 : Int) (r : Int) (w : World) (h : mapsheetsref01_sign.f a0 a1 = some r) :
    Calls Try.prog 43 #[.int .i64 a0, .int .i64 a1] w fun e w' => e = .returned (.int .i64 r) ∧ Drawn0 w w' := by
 have H : (if a0 < a1 then (some (-1)) else (if a0 > a1 then (some 1) else (some 0))) = some r := h
 clear h
 by_cases c3 : a0 < a1
 ·rw [if_pos c3] at H
  have c3b0 : decide (a0 < a1) = true := decide_eq_true c3
  clear c3
  obtain rfl := Option.some.inj H
  go_enter Try.func43, Try.ntmps43
  go_wp2
  go_ret
  exact ⟨by first | rfl | (simp; done) | (simp [*]; done), by repeat (first | exact Drawn0.refl _ | apply Drawn0.step)⟩
 ·rw [if_neg c3] at H
  have c3b0 : decide (a0 < a1) = false := decide_eq_false c3
  clear c3
  by_cases c4 : a0 > a1
  ·rw [if_pos c4] at H
   have c4b0 : decide (a1 < a0) = true := decide_eq_true c4
   clear c4
   obtain rfl := Option.some.inj H
   go_enter Try.func43, Try.ntmps43
   go_wp2
   go_ret
   exact ⟨by first | rfl | (simp; done) | (simp [*]; done), by repeat (first | exact Drawn0.refl _ | apply Drawn0.step)⟩
  ·rw [if_neg c4] at H
   have c4b0 : decide (a1 < a0) = false := decide_eq_false c4
   clear c4
   obtain rfl := Option.some.inj H
   go_enter Try.func43, Try.ntmps43
   go_wp2
   go_ret
   exact ⟨by first | rfl | (simp; done) | (simp [*]; done), by repeat (first | exact Drawn0.refl _ | apply Drawn0.step)⟩

/-! ### mapsheetsref01_Cmp: function 27 -/
mutual
def mapsheetsref01_Cmp.j0 : Nat → Bool → Int → Int → Int → Int → Option (Int)
  | 0, _, _, _, _, _ => none
  | k + 1, x18, x334000, x334001, x335000, x335001 => if x18 = true then (some 0) else (mapsheetsref01_Cmp.l0 k x334000 x334001 x335000 x335001)
def mapsheetsref01_Cmp.l0 : Nat → Int → Int → Int → Int → Option (Int)
  | 0, _, _, _, _ => none
  | k + 1, x334000, x334001, x335000, x335001 => (mapsheetsref01_Floor.f k x334000 x334001).bind fun bt337 => ((mapsheetsref01_Floor.f k x335000 x335001).bind fun bt339 => (if bt337.1 = bt339.1 then (if (wrap64 (x334000 - (wrap64 (bt337.1 * x334001)))) = 0 then ((mapsheetsref01_sign.f (wrap64 (x334000 - (wrap64 (bt337.1 * x334001)))) (wrap64 (x335000 - (wrap64 (bt339.1 * x335001))))).bind fun t341 => (some t341)) else (if (wrap64 (x335000 - (wrap64 (bt339.1 * x335001)))) = 0 then ((mapsheetsref01_sign.f (wrap64 (x334000 - (wrap64 (bt337.1 * x334001)))) (wrap64 (x335000 - (wrap64 (bt339.1 * x335001))))).bind fun t342 => (some t342)) else (mapsheetsref01_Cmp.l0 k x335001 (wrap64 (x335000 - (wrap64 (bt339.1 * x335001)))) x334001 (wrap64 (x334000 - (wrap64 (bt337.1 * x334001))))))) else ((mapsheetsref01_sign.f bt337.1 bt339.1).bind fun t343 => (some t343))))
end
def mapsheetsref01_Cmp.f (k : Nat) (a0_0 : Int) (a0_1 : Int) (a1_0 : Int) (a1_1 : Int) : Option (Int) := (mapsheetsref01_Valid.f k a0_0 a0_1).bind fun t335 => (if t335 = true then ((mapsheetsref01_Valid.f k a1_0 a1_1).bind fun t336 => (mapsheetsref01_Cmp.j0 k (!t336) a0_0 a0_1 a1_0 a1_1)) else (mapsheetsref01_Cmp.j0 k true a0_0 a0_1 a1_0 a1_1))
theorem mapsheetsref01_Cmp.mono_l : ∀ k, (∀ y0 y1 y2 y3 y4, LeO (mapsheetsref01_Cmp.j0 k y0 y1 y2 y3 y4) (mapsheetsref01_Cmp.j0 (k + 1) y0 y1 y2 y3 y4)) ∧ (∀ y0 y1 y2 y3, LeO (mapsheetsref01_Cmp.l0 k y0 y1 y2 y3) (mapsheetsref01_Cmp.l0 (k + 1) y0 y1 y2 y3))
  | 0 => ⟨fun _ _ _ _ _ r h => by simp [mapsheetsref01_Cmp.j0] at h, fun _ _ _ _ r h => by simp [mapsheetsref01_Cmp.l0] at h⟩
  | k + 1 => by
    obtain ⟨ih0, ih1⟩ := mapsheetsref01_Cmp.mono_l k
    refine ⟨?_, ?_⟩
    · intro y0 y1 y2 y3 y4
      unfold mapsheetsref01_Cmp.j0
      repeat' first
      | (with_reducible exact ih0 _ _ _ _ _)
      | (with_reducible exact ih1 _ _ _ _)
      | (with_reducible exact mapsheetsref01_Floor.mono _ _ _)
      | (with_reducible exact mapsheetsref01_Valid.mono _ _ _)
      | (with_reducible exact LeO.refl _)
      | (with_reducible exact LeO.none _)
      | (with_reducible refine LeO.ite ?_ ?_)
      | (with_reducible refine LeO.bind ?_ (fun _ => ?_))
      | exact ih0 _ _ _ _ _
      | exact ih1 _ _ _ _
      | exact mapsheetsref01_Floor.mono _ _ _
      | exact mapsheetsref01_Valid.mono _ _ _
      | exact LeO.none _
      | refine LeO.ite ?_ ?_
      | refine LeO.bind ?_ (fun _ => ?_)
    · intro y0 y1 y2 y3
      unfold mapsheetsref01_Cmp.l0
      repeat' first
      | (with_reducible exact ih0 _ _ _ _ _)
      | (with_reducible exact ih1 _ _ _ _)
      | (with_reducible exact mapsheetsref01_Floor.mono _ _ _)
      | (with_reducible exact mapsheetsref01_Valid.mono _ _ _)
      | (with_reducible exact LeO.refl _)
      | (with_reducible exact LeO.none _)
      | (with_reducible refine LeO.ite ?_ ?_)
      | (with_reducible refine LeO.bind ?_ (fun _ => ?_))
      | exact ih0 _ _ _ _ _
      | exact ih1 _ _ _ _
      | exact mapsheetsref01_Floor.mono _ _ _
      | exact mapsheetsref01_Valid.mono _ _ _
      | exact LeO.none _
      | refine LeO.ite ?_ ?_
      | refine LeO.bind ?_ (fun _ => ?_)
theorem mapsheetsref01_Cmp.mono : ∀ a0 a1 a2 a3 k, LeO (mapsheetsref01_Cmp.f k a0 a1 a2 a3) (mapsheetsref01_Cmp.f (k + 1) a0 a1 a2 a3) := by
  intro a0 a1 a2 a3 k
  obtain ⟨ih0, ih1⟩ := mapsheetsref01_Cmp.mono_l k
  unfold mapsheetsref01_Cmp.f
  repeat' first
      | (with_reducible exact ih0 _ _ _ _ _)
      | (with_reducible exact ih1 _ _ _ _)
      | (with_reducible exact mapsheetsref01_Floor.mono _ _ _)
      | (with_reducible exact mapsheetsref01_Valid.mono _ _ _)
      | (with_reducible exact LeO.refl _)
      | (with_reducible exact LeO.none _)
      | (with_reducible refine LeO.ite ?_ ?_)
      | (with_reducible refine LeO.bind ?_ (fun _ => ?_))
      | exact ih0 _ _ _ _ _
      | exact ih1 _ _ _ _
      | exact mapsheetsref01_Floor.mono _ _ _
      | exact mapsheetsref01_Valid.mono _ _ _
      | exact LeO.none _
      | refine LeO.ite ?_ ?_
      | refine LeO.bind ?_ (fun _ => ?_)
set_option maxHeartbeats 8000000 in
set_option maxRecDepth 100000 in
theorem mapsheetsref01_Cmp.calls (k : Nat) (a0_0 : Int) (a0_1 : Int) (a1_0 : Int) (a1_1 : Int) (r : Int) (w : World) (h : mapsheetsref01_Cmp.f k a0_0 a0_1 a1_0 a1_1 = some r) :
    Calls Try.prog 27 #[.agg #[.int .i64 a0_0, .int .i64 a0_1], .agg #[.int .i64 a1_0, .int .i64 a1_1]] w fun e w' => e = .returned (.int .i64 r) ∧ Below w.heap.size w w' := by
 have hu34 := Try.underlying34
 have HB := Aside0.mk (Below.refl w.heap.size w)
 have H : ((mapsheetsref01_Valid.f k a0_0 a0_1).bind fun t335 => (if t335 = true then ((mapsheetsref01_Valid.f k a1_0 a1_1).bind fun t336 => (mapsheetsref01_Cmp.j0 k (!t336) a0_0 a0_1 a1_0 a1_1)) else (mapsheetsref01_Cmp.j0 k true a0_0 a0_1 a1_0 a1_1))) = some r := h
 clear h
 have HC3 := Aside0.mk H
 clear H
 go_enter Try.func27, Try.ntmps27
 go_upto_region 1 with (first | ((with_reducible refine gate_dst (N := 2) rfl ?_); refine box_event ?hg (N := 2) ?hd (cs := #[.int .i64 a0_0, .int .i64 a0_1]) (t := 34) ?hr ?_; (case hd => rfl); (case hg => rfl); (case hr => first | (go_simp; done) | (go_simp; rfl)); intro gb333 hg w4 hbox hb; have n0_ := Aside0.mk (below_step (by repeat (first | (with_reducible first | exact HB.out | apply below_alloc | apply pw_below_drewN | apply below_drew1) | exact HB.out)) hb); have n1_ := Aside0.mk (hbox); have n2_ := Aside0.mk ((by rw [hg]; exact (below_size (by repeat (first | (with_reducible first | exact HB.out | apply below_alloc | apply pw_below_drewN | apply below_drew1) | exact HB.out))) : w.heap.size ≤ gb333)); have n3_ := Aside0.mk ((by rw [hg]; exact (below_size (by repeat (first | (with_reducible first | exact HB.out | apply below_alloc | apply pw_below_drewN | apply below_drew1) | exact HB.out))) : w.heap.size ≤ gb333)); clear HB; have HB := n0_; have BK333 := n1_; have GW333 := n2_; have GE333 := n3_; clear n0_ n1_ n2_ n3_; clear hb hbox hg) | ((with_reducible refine gate_dst (N := 3) rfl ?_); refine box_event ?hg (N := 3) ?hd (cs := #[.int .i64 a1_0, .int .i64 a1_1]) (t := 34) ?hr ?_; (case hd => rfl); (case hg => rfl); (case hr => first | (go_simp; done) | (go_simp; rfl)); intro gb334 hg w5 hbox hb; have n0_ := Aside0.mk (blk_below (g := gb333) (o := .cells #[.int .i64 a0_0, .int .i64 a0_1] 34 (0, 0)) (by (with_reducible repeat (first | refine blk_drewN ?_ _ | refine blk_drew ?_ | refine blk_alloc ?_ _)); exact BK333.out) hb); have n1_ := Aside0.mk (below_step (by repeat (first | (with_reducible first | exact HB.out | apply below_alloc | apply pw_below_drewN | apply below_drew1 | refine below_set ?_ GE333.out) | exact HB.out)) hb); have n2_ := Aside0.mk (hbox); have n3_ := Aside0.mk ((by rw [hg]; exact (below_size (by repeat (first | (with_reducible first | exact HB.out | apply below_alloc | apply pw_below_drewN | apply below_drew1 | refine below_set ?_ GE333.out) | exact HB.out))) : w.heap.size ≤ gb334)); have n4_ := Aside0.mk ((by rw [hg]; exact (below_size (by repeat (first | (with_reducible first | exact HB.out | apply below_alloc | apply pw_below_drewN | apply below_drew1 | refine below_set ?_ GE333.out) | exact HB.out))) : w.heap.size ≤ gb334)); have n5_ := Aside0.mk ((by rw [hg]; exact Nat.ne_of_lt (blk_lt (g := gb333) (o := .cells #[.int .i64 a0_0, .int .i64 a0_1] 34 (0, 0)) (by (with_reducible repeat (first | refine blk_drewN ?_ _ | refine blk_drew ?_ | refine blk_alloc ?_ _)); exact BK333.out)) : gb333 ≠ gb334)); have n6_ := Aside0.mk ((by rw [hg]; exact Nat.ne_of_gt (blk_lt (g := gb333) (o := .cells #[.int .i64 a0_0, .int .i64 a0_1] 34 (0, 0)) (by (with_reducible repeat (first | refine blk_drewN ?_ _ | refine blk_drew ?_ | refine blk_alloc ?_ _)); exact BK333.out)) : gb334 ≠ gb333)); clear BK333; clear HB; have BK333 := n0_; have HB := n1_; have BK334 := n2_; have GW334 := n3_; have GE334 := n4_; have NB333_334 := n5_; have NB334_333 := n6_; clear n0_ n1_ n2_ n3_ n4_ n5_ n6_; clear hb hbox hg))
 repeat (go_quiet (first | ((with_reducible refine gate_dst (N := 2) rfl ?_); refine box_event ?hg (N := 2) ?hd (cs := #[.int .i64 a0_0, .int .i64 a0_1]) (t := 34) ?hr ?_; (case hd => rfl); (case hg => rfl); (case hr => first | (go_simp; done) | (go_simp; rfl)); intro gb333 hg w4 hbox hb; have n0_ := Aside0.mk (below_step (by repeat (first | (with_reducible first | exact HB.out | apply below_alloc | apply pw_below_drewN | apply below_drew1) | exact HB.out)) hb); have n1_ := Aside0.mk (hbox); have n2_ := Aside0.mk ((by rw [hg]; exact (below_size (by repeat (first | (with_reducible first | exact HB.out | apply below_alloc | apply pw_below_drewN | apply below_drew1) | exact HB.out))) : w.heap.size ≤ gb333)); have n3_ := Aside0.mk ((by rw [hg]; exact (below_size (by repeat (first | (with_reducible first | exact HB.out | apply below_alloc | apply pw_below_drewN | apply below_drew1) | exact HB.out))) : w.heap.size ≤ gb333)); clear HB; have HB := n0_; have BK333 := n1_; have GW333 := n2_; have GE333 := n3_; clear n0_ n1_ n2_ n3_; clear hb hbox hg) | ((with_reducible refine gate_dst (N := 3) rfl ?_); refine box_event ?hg (N := 3) ?hd (cs := #[.int .i64 a1_0, .int .i64 a1_1]) (t := 34) ?hr ?_; (case hd => rfl); (case hg => rfl); (case hr => first | (go_simp; done) | (go_simp; rfl)); intro gb334 hg w5 hbox hb; have n0_ := Aside0.mk (blk_below (g := gb333) (o := .cells #[.int .i64 a0_0, .int .i64 a0_1] 34 (0, 0)) (by (with_reducible repeat (first | refine blk_drewN ?_ _ | refine blk_drew ?_ | refine blk_alloc ?_ _)); exact BK333.out) hb); have n1_ := Aside0.mk (below_step (by repeat (first | (with_reducible first | exact HB.out | apply below_alloc | apply pw_below_drewN | apply below_drew1 | refine below_set ?_ GE333.out) | exact HB.out)) hb); have n2_ := Aside0.mk (hbox); have n3_ := Aside0.mk ((by rw [hg]; exact (below_size (by repeat (first | (with_reducible first | exact HB.out | apply below_alloc | apply pw_below_drewN | apply below_drew1 | refine below_set ?_ GE333.out) | exact HB.out))) : w.heap.size ≤ gb334)); have n4_ := Aside0.mk ((by rw [hg]; exact (below_size (by repeat (first | (with_reducible first | exact HB.out | apply below_alloc | apply pw_below_drewN | apply below_drew1 | refine below_set ?_ GE333.out) | exact HB.out))) : w.heap.size ≤ gb334)); have n5_ := Aside0.mk ((by rw [hg]; exact Nat.ne_of_lt (blk_lt (g := gb333) (o := .cells #[.int .i64 a0_0, .int .i64 a0_1] 34 (0, 0)) (by (with_reducible repeat (first | refine blk_drewN ?_ _ | refine blk_drew ?_ | refine blk_alloc ?_ _)); exact BK333.out)) : gb333 ≠ gb334)); have n6_ := Aside0.mk ((by rw [hg]; exact Nat.ne_of_gt (blk_lt (g := gb333) (o := .cells #[.int .i64 a0_0, .int .i64 a0_1] 34 (0, 0)) (by (with_reducible repeat (first | refine blk_drewN ?_ _ | refine blk_drew ?_ | refine blk_alloc ?_ _)); exact BK333.out)) : gb334 ≠ gb333)); clear BK333; clear HB; have BK333 := n0_; have HB := n1_; have BK334 := n2_; have GW334 := n3_; have GE334 := n4_; have NB333_334 := n5_; have NB334_333 := n6_; clear n0_ n1_ n2_ n3_ n4_ n5_ n6_; clear hb hbox hg)); go_upto_region 1 with (first | ((with_reducible refine gate_dst (N := 2) rfl ?_); refine box_event ?hg (N := 2) ?hd (cs := #[.int .i64 a0_0, .int .i64 a0_1]) (t := 34) ?hr ?_; (case hd => rfl); (case hg => rfl); (case hr => first | (go_simp; done) | (go_simp; rfl)); intro gb333 hg w4 hbox hb; have n0_ := Aside0.mk (below_step (by repeat (first | (with_reducible first | exact HB.out | apply below_alloc | apply pw_below_drewN | apply below_drew1) | exact HB.out)) hb); have n1_ := Aside0.mk (hbox); have n2_ := Aside0.mk ((by rw [hg]; exact (below_size (by repeat (first | (with_reducible first | exact HB.out | apply below_alloc | apply pw_below_drewN | apply below_drew1) | exact HB.out))) : w.heap.size ≤ gb333)); have n3_ := Aside0.mk ((by rw [hg]; exact (below_size (by repeat (first | (with_reducible first | exact HB.out | apply below_alloc | apply pw_below_drewN | apply below_drew1) | exact HB.out))) : w.heap.size ≤ gb333)); clear HB; have HB := n0_; have BK333 := n1_; have GW333 := n2_; have GE333 := n3_; clear n0_ n1_ n2_ n3_; clear hb hbox hg) | ((with_reducible refine gate_dst (N := 3) rfl ?_); refine box_event ?hg (N := 3) ?hd (cs := #[.int .i64 a1_0, .int .i64 a1_1]) (t := 34) ?hr ?_; (case hd => rfl); (case hg => rfl); (case hr => first | (go_simp; done) | (go_simp; rfl)); intro gb334 hg w5 hbox hb; have n0_ := Aside0.mk (blk_below (g := gb333) (o := .cells #[.int .i64 a0_0, .int .i64 a0_1] 34 (0, 0)) (by (with_reducible repeat (first | refine blk_drewN ?_ _ | refine blk_drew ?_ | refine blk_alloc ?_ _)); exact BK333.out) hb); have n1_ := Aside0.mk (below_step (by repeat (first | (with_reducible first | exact HB.out | apply below_alloc | apply pw_below_drewN | apply below_drew1 | refine below_set ?_ GE333.out) | exact HB.out)) hb); have n2_ := Aside0.mk (hbox); have n3_ := Aside0.mk ((by rw [hg]; exact (below_size (by repeat (first | (with_reducible first | exact HB.out | apply below_alloc | apply pw_below_drewN | apply below_drew1 | refine below_set ?_ GE333.out) | exact HB.out))) : w.heap.size ≤ gb334)); have n4_ := Aside0.mk ((by rw [hg]; exact (below_size (by repeat (first | (with_reducible first | exact HB.out | apply below_alloc | apply pw_below_drewN | apply below_drew1 | refine below_set ?_ GE333.out) | exact HB.out))) : w.heap.size ≤ gb334)); have n5_ := Aside0.mk ((by rw [hg]; exact Nat.ne_of_lt (blk_lt (g := gb333) (o := .cells #[.int .i64 a0_0, .int .i64 a0_1] 34 (0, 0)) (by (with_reducible repeat (first | refine blk_drewN ?_ _ | refine blk_drew ?_ | refine blk_alloc ?_ _)); exact BK333.out)) : gb333 ≠ gb334)); have n6_ := Aside0.mk ((by rw [hg]; exact Nat.ne_of_gt (blk_lt (g := gb333) (o := .cells #[.int .i64 a0_0, .int .i64 a0_1] 34 (0, 0)) (by (with_reducible repeat (first | refine blk_drewN ?_ _ | refine blk_drew ?_ | refine blk_alloc ?_ _)); exact BK333.out)) : gb334 ≠ gb333)); clear BK333; clear HB; have BK333 := n0_; have HB := n1_; have BK334 := n2_; have GW334 := n3_; have GE334 := n4_; have NB333_334 := n5_; have NB334_333 := n6_; clear n0_ n1_ n2_ n3_ n4_ n5_ n6_; clear hb hbox hg)))
 (try simp only [Act.put, List.setIfInBounds_toArray, List.set_cons_zero, List.set_cons_succ])
 go_cut [18] (fun v18 wc => ∃ (kq : Nat) (x18_2 : Bool), v18 = .bool x18_2 ∧ Aside0 (mapsheetsref01_Cmp.j0 kq x18_2 a0_0 a0_1 a1_0 a1_1 = some r) ∧ Aside0 (kq ≤ k) ∧ Aside0 (wc.heap[gb333]? = some (.cells #[.int .i64 a0_0, .int .i64 a0_1] 34 (0, 0))) ∧ Aside0 (wc.heap[gb334]? = some (.cells #[.int .i64 a1_0, .int .i64 a1_1] 34 (0, 0))) ∧ Aside0 (Below w.heap.size w wc))
 case first =>
  have H := HC3.out
  clear HC3
  replace H := Option.bind_eq_some_iff.mp H
  obtain ⟨t335, A60, H⟩ := H
  replace H : (if t335 = true then ((mapsheetsref01_Valid.f k a1_0 a1_1).bind fun t336 => (mapsheetsref01_Cmp.j0 k (!t336) a0_0 a0_1 a1_0 a1_1)) else (mapsheetsref01_Cmp.j0 k true a0_0 a0_1 a1_0 a1_1)) = some r := H
  have A6 := Aside0.mk A60
  clear A60
  by_cases c7 : t335 = true
  ·subst c7
   have H1 : ((mapsheetsref01_Valid.f k a1_0 a1_1).bind fun t336 => (mapsheetsref01_Cmp.j0 k (!t336) a0_0 a0_1 a1_0 a1_1)) = some r := by rw [if_pos rfl] at H; exact H
   clear H
   have H := H1
   clear H1
   replace H := Option.bind_eq_some_iff.mp H
   obtain ⟨t336, A80, H⟩ := H
   replace H : (mapsheetsref01_Cmp.j0 k (!t336) a0_0 a0_1 a1_0 a1_1) = some r := H
   have A8 := Aside0.mk A80
   clear A80
   have H' := Aside0.mk H
   clear H
   have hnb9 := NB333_334.out
   have hnc9 := NB334_333.out
   have hcz10_0 : w5.cell? ⟨gb333, 0, none⟩ = some (.int .i64 a0_0) := (blk_cell BK333.out 0).trans rfl
   have hcz10_1 : w5.cell? ⟨gb333, 1, none⟩ = some (.int .i64 a0_1) := (blk_cell BK333.out 1).trans rfl
   have hfz10_0 := blk_frozen BK333.out 0
   have hfz10_1 := blk_frozen BK333.out 1
   go_wp2_with (first | (go_at_call 25; (with_reducible refine (mapsheetsref01_Valid.calls k a0_0 a0_1 true _ A6.out).mono ?_); rintro e w11 ⟨rfl, hb⟩; have n0_ := Aside0.mk (blk_below (g := gb333) (o := .cells #[.int .i64 a0_0, .int .i64 a0_1] 34 (0, 0)) (by (with_reducible repeat (first | refine blk_drewN ?_ _ | refine blk_drew ?_ | refine blk_alloc ?_ _)); exact BK333.out) hb); have n1_ := Aside0.mk (blk_below (g := gb334) (o := .cells #[.int .i64 a1_0, .int .i64 a1_1] 34 (0, 0)) (by (with_reducible repeat (first | refine blk_drewN ?_ _ | refine blk_drew ?_ | refine blk_alloc ?_ _)); exact BK334.out) hb); have n2_ := Aside0.mk (below_step (by repeat (first | (with_reducible first | exact HB.out | apply below_alloc | apply pw_below_drewN | apply below_drew1 | refine below_set ?_ GE333.out | refine below_set ?_ GE334.out) | exact HB.out)) hb); clear BK333; clear BK334; clear HB; have BK333 := n0_; have BK334 := n1_; have HB := n2_; clear n0_ n1_ n2_; (try clear hb); (try clear hb2); (try clear hk); (try clear hi); have hcz12_0 : w11.cell? ⟨gb334, 0, none⟩ = some (.int .i64 a1_0) := (blk_cell BK334.out 0).trans rfl; have hcz12_1 : w11.cell? ⟨gb334, 1, none⟩ = some (.int .i64 a1_1) := (blk_cell BK334.out 1).trans rfl; have hfz12_0 := blk_frozen BK334.out 0; have hfz12_1 := blk_frozen BK334.out 1) | (go_at_call 25; (with_reducible refine (mapsheetsref01_Valid.calls k a1_0 a1_1 t336 _ A8.out).mono ?_); rintro e w13 ⟨rfl, hb⟩; have n0_ := Aside0.mk (blk_below (g := gb333) (o := .cells #[.int .i64 a0_0, .int .i64 a0_1] 34 (0, 0)) (by (with_reducible repeat (first | refine blk_drewN ?_ _ | refine blk_drew ?_ | refine blk_alloc ?_ _)); exact BK333.out) hb); have n1_ := Aside0.mk (blk_below (g := gb334) (o := .cells #[.int .i64 a1_0, .int .i64 a1_1] 34 (0, 0)) (by (with_reducible repeat (first | refine blk_drewN ?_ _ | refine blk_drew ?_ | refine blk_alloc ?_ _)); exact BK334.out) hb); have n2_ := Aside0.mk (below_step (by repeat (first | (with_reducible first | exact HB.out | apply below_alloc | apply pw_below_drewN | apply below_drew1 | refine below_set ?_ GE333.out | refine below_set ?_ GE334.out) | exact HB.out)) hb); clear BK333; clear BK334; clear HB; have BK333 := n0_; have BK334 := n1_; have HB := n2_; clear n0_ n1_ n2_; (try clear hb); (try clear hb2); (try clear hk); (try clear hi)))
   repeat (go_quiet (first | (go_at_call 25; (with_reducible refine (mapsheetsref01_Valid.calls k a0_0 a0_1 true _ A6.out).mono ?_); rintro e w11 ⟨rfl, hb⟩; have n0_ := Aside0.mk (blk_below (g := gb333) (o := .cells #[.int .i64 a0_0, .int .i64 a0_1] 34 (0, 0)) (by (with_reducible repeat (first | refine blk_drewN ?_ _ | refine blk_drew ?_ | refine blk_alloc ?_ _)); exact BK333.out) hb); have n1_ := Aside0.mk (blk_below (g := gb334) (o := .cells #[.int .i64 a1_0, .int .i64 a1_1] 34 (0, 0)) (by (with_reducible repeat (first | refine blk_drewN ?_ _ | refine blk_drew ?_ | refine blk_alloc ?_ _)); exact BK334.out) hb); have n2_ := Aside0.mk (below_step (by repeat (first | (with_reducible first | exact HB.out | apply below_alloc | apply pw_below_drewN | apply below_drew1 | refine below_set ?_ GE333.out | refine below_set ?_ GE334.out) | exact HB.out)) hb); clear BK333; clear BK334; clear HB; have BK333 := n0_; have BK334 := n1_; have HB := n2_; clear n0_ n1_ n2_; (try clear hb); (try clear hb2); (try clear hk); (try clear hi); have hcz12_0 : w11.cell? ⟨gb334, 0, none⟩ = some (.int .i64 a1_0) := (blk_cell BK334.out 0).trans rfl; have hcz12_1 : w11.cell? ⟨gb334, 1, none⟩ = some (.int .i64 a1_1) := (blk_cell BK334.out 1).trans rfl; have hfz12_0 := blk_frozen BK334.out 0; have hfz12_1 := blk_frozen BK334.out 1) | (go_at_call 25; (with_reducible refine (mapsheetsref01_Valid.calls k a1_0 a1_1 t336 _ A8.out).mono ?_); rintro e w13 ⟨rfl, hb⟩; have n0_ := Aside0.mk (blk_below (g := gb333) (o := .cells #[.int .i64 a0_0, .int .i64 a0_1] 34 (0, 0)) (by (with_reducible repeat (first | refine blk_drewN ?_ _ | refine blk_drew ?_ | refine blk_alloc ?_ _)); exact BK333.out) hb); have n1_ := Aside0.mk (blk_below (g := gb334) (o := .cells #[.int .i64 a1_0, .int .i64 a1_1] 34 (0, 0)) (by (with_reducible repeat (first | refine blk_drewN ?_ _ | refine blk_drew ?_ | refine blk_alloc ?_ _)); exact BK334.out) hb); have n2_ := Aside0.mk (below_step (by repeat (first | (with_reducible first | exact HB.out | apply below_alloc | apply pw_below_drewN | apply below_drew1 | refine below_set ?_ GE333.out | refine below_set ?_ GE334.out) | exact HB.out)) hb); clear BK333; clear BK334; clear HB; have BK333 := n0_; have BK334 := n1_; have HB := n2_; clear n0_ n1_ n2_; (try clear hb); (try clear hb2); (try clear hk); (try clear hi))); try go_wp2_with (first | (go_at_call 25; (with_reducible refine (mapsheetsref01_Valid.calls k a0_0 a0_1 true _ A6.out).mono ?_); rintro e w11 ⟨rfl, hb⟩; have n0_ := Aside0.mk (blk_below (g := gb333) (o := .cells #[.int .i64 a0_0, .int .i64 a0_1] 34 (0, 0)) (by (with_reducible repeat (first | refine blk_drewN ?_ _ | refine blk_drew ?_ | refine blk_alloc ?_ _)); exact BK333.out) hb); have n1_ := Aside0.mk (blk_below (g := gb334) (o := .cells #[.int .i64 a1_0, .int .i64 a1_1] 34 (0, 0)) (by (with_reducible repeat (first | refine blk_drewN ?_ _ | refine blk_drew ?_ | refine blk_alloc ?_ _)); exact BK334.out) hb); have n2_ := Aside0.mk (below_step (by repeat (first | (with_reducible first | exact HB.out | apply below_alloc | apply pw_below_drewN | apply below_drew1 | refine below_set ?_ GE333.out | refine below_set ?_ GE334.out) | exact HB.out)) hb); clear BK333; clear BK334; clear HB; have BK333 := n0_; have BK334 := n1_; have HB := n2_; clear n0_ n1_ n2_; (try clear hb); (try clear hb2); (try clear hk); (try clear hi); have hcz12_0 : w11.cell? ⟨gb334, 0, none⟩ = some (.int .i64 a1_0) := (blk_cell BK334.out 0).trans rfl; have hcz12_1 : w11.cell? ⟨gb334, 1, none⟩ = some (.int .i64 a1_1) := (blk_cell BK334.out 1).trans rfl; have hfz12_0 := blk_frozen BK334.out 0; have hfz12_1 := blk_frozen BK334.out 1) | (go_at_call 25; (with_reducible refine (mapsheetsref01_Valid.calls k a1_0 a1_1 t336 _ A8.out).mono ?_); rintro e w13 ⟨rfl, hb⟩; have n0_ := Aside0.mk (blk_below (g := gb333) (o := .cells #[.int .i64 a0_0, .int .i64 a0_1] 34 (0, 0)) (by (with_reducible repeat (first | refine blk_drewN ?_ _ | refine blk_drew ?_ | refine blk_alloc ?_ _)); exact BK333.out) hb); have n1_ := Aside0.mk (blk_below (g := gb334) (o := .cells #[.int .i64 a1_0, .int .i64 a1_1] 34 (0, 0)) (by (with_reducible repeat (first | refine blk_drewN ?_ _ | refine blk_drew ?_ | refine blk_alloc ?_ _)); exact BK334.out) hb); have n2_ := Aside0.mk (below_step (by repeat (first | (with_reducible first | exact HB.out | apply below_alloc | apply pw_below_drewN | apply below_drew1 | refine below_set ?_ GE333.out | refine below_set ?_ GE334.out) | exact HB.out)) hb); clear BK333; clear BK334; clear HB; have BK333 := n0_; have BK334 := n1_; have HB := n2_; clear n0_ n1_ n2_; (try clear hb); (try clear hb2); (try clear hk); (try clear hi))))
   go_meet
   case rel => exact ⟨_, (!t336), (by first | rfl | (simp; done) | (simp [*]; done)), H', ⟨by first | omega | exact Nat.le_refl _⟩, ⟨by (with_reducible repeat (first | refine blk_drewN ?_ _ | refine blk_drew ?_ | refine blk_alloc ?_ _)); exact BK333.out⟩, ⟨by (with_reducible repeat (first | refine blk_drewN ?_ _ | refine blk_drew ?_ | refine blk_alloc ?_ _)); exact BK334.out⟩, ⟨by repeat (first | (with_reducible first | exact HB.out | apply below_alloc | apply pw_below_drewN | apply below_drew1 | refine below_set ?_ GE333.out | refine below_set ?_ GE334.out) | exact HB.out)⟩⟩
  ·replace c7 := Bool.eq_false_iff.mpr c7
   subst c7
   have H1 : (mapsheetsref01_Cmp.j0 k true a0_0 a0_1 a1_0 a1_1) = some r := by rw [if_neg (show ¬ (false = true) by decide)] at H; exact H
   clear H
   have H := H1
   clear H1
   have H' := Aside0.mk H
   clear H
   have hnb14 := NB333_334.out
   have hnc14 := NB334_333.out
   have hcz15_0 : w5.cell? ⟨gb333, 0, none⟩ = some (.int .i64 a0_0) := (blk_cell BK333.out 0).trans rfl
   have hcz15_1 : w5.cell? ⟨gb333, 1, none⟩ = some (.int .i64 a0_1) := (blk_cell BK333.out 1).trans rfl
   have hfz15_0 := blk_frozen BK333.out 0
   have hfz15_1 := blk_frozen BK333.out 1
   go_wp2_with (first | (go_at_call 25; (with_reducible refine (mapsheetsref01_Valid.calls k a0_0 a0_1 false _ A6.out).mono ?_); rintro e w16 ⟨rfl, hb⟩; have n0_ := Aside0.mk (blk_below (g := gb333) (o := .cells #[.int .i64 a0_0, .int .i64 a0_1] 34 (0, 0)) (by (with_reducible repeat (first | refine blk_drewN ?_ _ | refine blk_drew ?_ | refine blk_alloc ?_ _)); exact BK333.out) hb); have n1_ := Aside0.mk (blk_below (g := gb334) (o := .cells #[.int .i64 a1_0, .int .i64 a1_1] 34 (0, 0)) (by (with_reducible repeat (first | refine blk_drewN ?_ _ | refine blk_drew ?_ | refine blk_alloc ?_ _)); exact BK334.out) hb); have n2_ := Aside0.mk (below_step (by repeat (first | (with_reducible first | exact HB.out | apply below_alloc | apply pw_below_drewN | apply below_drew1 | refine below_set ?_ GE333.out | refine below_set ?_ GE334.out) | exact HB.out)) hb); clear BK333; clear BK334; clear HB; have BK333 := n0_; have BK334 := n1_; have HB := n2_; clear n0_ n1_ n2_; (try clear hb); (try clear hb2); (try clear hk); (try clear hi)))
   repeat (go_quiet (first | (go_at_call 25; (with_reducible refine (mapsheetsref01_Valid.calls k a0_0 a0_1 false _ A6.out).mono ?_); rintro e w16 ⟨rfl, hb⟩; have n0_ := Aside0.mk (blk_below (g := gb333) (o := .cells #[.int .i64 a0_0, .int .i64 a0_1] 34 (0, 0)) (by (with_reducible repeat (first | refine blk_drewN ?_ _ | refine blk_drew ?_ | refine blk_alloc ?_ _)); exact BK333.out) hb); have n1_ := Aside0.mk (blk_below (g := gb334) (o := .cells #[.int .i64 a1_0, .int .i64 a1_1] 34 (0, 0)) (by (with_reducible repeat (first | refine blk_drewN ?_ _ | refine blk_drew ?_ | refine blk_alloc ?_ _)); exact BK334.out) hb); have n2_ := Aside0.mk (below_step (by repeat (first | (with_reducible first | exact HB.out | apply below_alloc | apply pw_below_drewN | apply below_drew1 | refine below_set ?_ GE333.out | refine below_set ?_ GE334.out) | exact HB.out)) hb); clear BK333; clear BK334; clear HB; have BK333 := n0_; have BK334 := n1_; have HB := n2_; clear n0_ n1_ n2_; (try clear hb); (try clear hb2); (try clear hk); (try clear hi))); try go_wp2_with (first | (go_at_call 25; (with_reducible refine (mapsheetsref01_Valid.calls k a0_0 a0_1 false _ A6.out).mono ?_); rintro e w16 ⟨rfl, hb⟩; have n0_ := Aside0.mk (blk_below (g := gb333) (o := .cells #[.int .i64 a0_0, .int .i64 a0_1] 34 (0, 0)) (by (with_reducible repeat (first | refine blk_drewN ?_ _ | refine blk_drew ?_ | refine blk_alloc ?_ _)); exact BK333.out) hb); have n1_ := Aside0.mk (blk_below (g := gb334) (o := .cells #[.int .i64 a1_0, .int .i64 a1_1] 34 (0, 0)) (by (with_reducible repeat (first | refine blk_drewN ?_ _ | refine blk_drew ?_ | refine blk_alloc ?_ _)); exact BK334.out) hb); have n2_ := Aside0.mk (below_step (by repeat (first | (with_reducible first | exact HB.out | apply below_alloc | apply pw_below_drewN | apply below_drew1 | refine below_set ?_ GE333.out | refine below_set ?_ GE334.out) | exact HB.out)) hb); clear BK333; clear BK334; clear HB; have BK333 := n0_; have BK334 := n1_; have HB := n2_; clear n0_ n1_ n2_; (try clear hb); (try clear hb2); (try clear hk); (try clear hi))))
   go_meet
   case rel => exact ⟨_, (true), (by first | rfl | (simp; done) | (simp [*]; done)), H', ⟨by first | omega | exact Nat.le_refl _⟩, ⟨by (with_reducible repeat (first | refine blk_drewN ?_ _ | refine blk_drew ?_ | refine blk_alloc ?_ _)); exact BK333.out⟩, ⟨by (with_reducible repeat (first | refine blk_drewN ?_ _ | refine blk_drew ?_ | refine blk_alloc ?_ _)); exact BK334.out⟩, ⟨by repeat (first | (with_reducible first | exact HB.out | apply below_alloc | apply pw_below_drewN | apply below_drew1 | refine below_set ?_ GE333.out | refine below_set ?_ GE334.out) | exact HB.out)⟩⟩
 case rest =>
  clear HC3
  try clear c1
  try clear c2
  try clear p2
  try clear c7
  try clear c9
  try clear c14
  try clear hcz10_0
  try clear hcz10_1
  try clear hcz12_0
  try clear hcz12_1
  try clear hcz15_0
  try clear hcz15_1
  try clear hfz10_0
  try clear hfz10_1
  try clear hfz12_0
  try clear hfz12_1
  try clear hfz15_0
  try clear hfz15_1
  obtain ⟨kq, x18_2, rfl, HA, HJ2, BK333, BK334, HB⟩ := hcut
  cases kq with
  | zero => exact absurd HA.out (by simp [mapsheetsref01_Cmp.j0])
  | succ kj2 =>
   have H := HA.out
   clear HA
   simp only [mapsheetsref01_Cmp.j0] at H
   by_cases c17 : x18_2 = true
   ·subst c17
    have H1 : (some 0) = some r := by rw [if_pos rfl] at H; exact H
    clear H
    have H := H1
    clear H1
    obtain rfl := Option.some.inj H
    go_wp2
    repeat (go_quiet (fail); try go_wp2)
    go_ret
    exact ⟨by first | rfl | (simp [errW_none, errW_some] <;> rfl) | (simp [*, errW_none, errW_some] <;> rfl), by repeat (first | (with_reducible first | exact HB.out | apply below_alloc | apply pw_below_drewN | apply below_drew1 | refine below_set ?_ GE333.out | refine below_set ?_ GE334.out) | exact HB.out)⟩
   ·replace c17 := Bool.eq_false_iff.mpr c17
    subst c17
    have H1 : (mapsheetsref01_Cmp.l0 kj2 a0_0 a0_1 a1_0 a1_1) = some r := by rw [if_neg (show ¬ (false = true) by decide)] at H; exact H
    clear H
    have H := H1
    clear H1
    have H' := Aside0.mk H
    clear H
    go_wp2
    repeat (go_quiet (fail); try go_wp2)
    go_loopg [] kj2 (fun kq w' => ∃ (x334000_2 : Int) (x334001_2 : Int) (x335000_2 : Int) (x335001_2 : Int), Aside0 (mapsheetsref01_Cmp.l0 kq x334000_2 x334001_2 x335000_2 x335001_2 = some r) ∧ Aside0 (kq ≤ kj2) ∧ Aside0 (w'.heap[gb333]? = some (.cells #[.int .i64 x334000_2, .int .i64 x334001_2] 34 (0, 0))) ∧ Aside0 (w'.heap[gb334]? = some (.cells #[.int .i64 x335000_2, .int .i64 x335001_2] 34 (0, 0))) ∧ Aside0 (Below w.heap.size w w'))
    case atStart => exact ⟨(a0_0), (a0_1), (a1_0), (a1_1), H', ⟨Nat.le_refl _⟩, ⟨by (with_reducible repeat (first | refine blk_drewN ?_ _ | refine blk_drew ?_ | refine blk_alloc ?_ _)); exact BK333.out⟩, ⟨by (with_reducible repeat (first | refine blk_drewN ?_ _ | refine blk_drew ?_ | refine blk_alloc ?_ _)); exact BK334.out⟩, ⟨by repeat (first | (with_reducible first | exact HB.out | apply below_alloc | apply pw_below_drewN | apply below_drew1 | refine below_set ?_ GE333.out | refine below_set ?_ GE334.out) | exact HB.out)⟩⟩
    case round =>
     clear H'
     try clear c1
     try clear c2
     try clear p2
     try clear c7
     try clear c9
     try clear c14
     try clear c17
     try clear hcz10_0
     try clear hcz10_1
     try clear hcz12_0
     try clear hcz12_1
     try clear hcz15_0
     try clear hcz15_1
     try clear hfz10_0
     try clear hfz10_1
     try clear hfz12_0
     try clear hfz12_1
     try clear hfz15_0
     try clear hfz15_1
     try clear p2
     obtain ⟨x334000_2, x334001_2, x335000_2, x335001_2, HA, HK2, BK333, BK334, HB⟩ := hrel
     cases gk with
     | zero => exact absurd HA.out (by simp [mapsheetsref01_Cmp.l0])
     | succ k2 =>
      have H := HA.out
      clear HA
      simp only [mapsheetsref01_Cmp.l0] at H
      replace H := Option.bind_eq_some_iff.mp H
      obtain ⟨⟨t337, t338⟩, A180, H⟩ := H
      replace H : ((mapsheetsref01_Floor.f k2 x335000_2 x335001_2).bind fun bt339 => (if t337 = bt339.1 then (if (wrap64 (x334000_2 - (wrap64 (t337 * x334001_2)))) = 0 then ((mapsheetsref01_sign.f (wrap64 (x334000_2 - (wrap64 (t337 * x334001_2)))) (wrap64 (x335000_2 - (wrap64 (bt339.1 * x335001_2))))).bind fun t341 => (some t341)) else (if (wrap64 (x335000_2 - (wrap64 (bt339.1 * x335001_2)))) = 0 then ((mapsheetsref01_sign.f (wrap64 (x334000_2 - (wrap64 (t337 * x334001_2)))) (wrap64 (x335000_2 - (wrap64 (bt339.1 * x335001_2))))).bind fun t342 => (some t342)) else (mapsheetsref01_Cmp.l0 k2 x335001_2 (wrap64 (x335000_2 - (wrap64 (bt339.1 * x335001_2)))) x334001_2 (wrap64 (x334000_2 - (wrap64 (t337 * x334001_2))))))) else ((mapsheetsref01_sign.f t337 bt339.1).bind fun t343 => (some t343)))) = some r := H
      have A18 := Aside0.mk A180
      clear A180
      replace H := Option.bind_eq_some_iff.mp H
      obtain ⟨⟨t339, t340⟩, A190, H⟩ := H
      replace H : (if t337 = t339 then (if (wrap64 (x334000_2 - (wrap64 (t337 * x334001_2)))) = 0 then ((mapsheetsref01_sign.f (wrap64 (x334000_2 - (wrap64 (t337 * x334001_2)))) (wrap64 (x335000_2 - (wrap64 (t339 * x335001_2))))).bind fun t341 => (some t341)) else (if (wrap64 (x335000_2 - (wrap64 (t339 * x335001_2)))) = 0 then ((mapsheetsref01_sign.f (wrap64 (x334000_2 - (wrap64 (t337 * x334001_2)))) (wrap64 (x335000_2 - (wrap64 (t339 * x335001_2))))).bind fun t342 => (some t342)) else (mapsheetsref01_Cmp.l0 k2 x335001_2 (wrap64 (x335000_2 - (wrap64 (t339 * x335001_2)))) x334001_2 (wrap64 (x334000_2 - (wrap64 (t337 * x334001_2))))))) else ((mapsheetsref01_sign.f t337 t339).bind fun t343 => (some t343))) = some r := H
      have A19 := Aside0.mk A190
      clear A190
      by_cases c20 : t337 = t339
      ·rw [if_pos c20] at H
       have c20b0 : (t337 == t339) = true := beq_iff_eq.mpr c20
       have c20b1 : (t337 != t339) = false := bne_eq_false_iff_eq.mpr c20
       clear c20
       by_cases c21 : (wrap64 (x334000_2 - (wrap64 (t337 * x334001_2)))) = 0
       ·rw [if_pos c21] at H
        have c21b0 : ((wrap64 (x334000_2 - (wrap64 (t337 * x334001_2)))) == 0) = true := beq_iff_eq.mpr c21
        have c21b1 : ((wrap64 (x334000_2 - (wrap64 (t337 * x334001_2)))) != 0) = false := bne_eq_false_iff_eq.mpr c21
        clear c21
        replace H := Option.bind_eq_some_iff.mp H
        obtain ⟨t341, A220, H⟩ := H
        replace H : (some t341) = some r := H
        have A22 := Aside0.mk A220
        clear A220
        obtain rfl := Option.some.inj H
        have hnb23 := NB333_334.out
        have hnc23 := NB334_333.out
        have hcz24_0 : wr.cell? ⟨gb333, 0, none⟩ = some (.int .i64 x334000_2) := (blk_cell BK333.out 0).trans rfl
        have hcz24_1 : wr.cell? ⟨gb333, 1, none⟩ = some (.int .i64 x334001_2) := (blk_cell BK333.out 1).trans rfl
        have hfz24_0 := blk_frozen BK333.out 0
        have hfz24_1 := blk_frozen BK333.out 1
        go_wp2_with (first | (go_at_call 14; (with_reducible refine (mapsheetsref01_Floor.calls k2 x334000_2 x334001_2 t337 t338 _ A18.out).mono ?_); rintro e w' ⟨rfl, ⟨nd, rfl⟩⟩; (try first | exact ⟨rfl, _, World.drewN_drewN _ _ _⟩ | exact ⟨rfl, _, Eq.trans (World.drewN_drewN _ _ _) (congrArg (World.drewN _) (Nat.add_assoc _ _ _))⟩); have hcz25_0 : wr.cell? ⟨gb334, 0, none⟩ = some (.int .i64 x335000_2) := (blk_cell BK334.out 0).trans rfl; have hcz25_1 : wr.cell? ⟨gb334, 1, none⟩ = some (.int .i64 x335001_2) := (blk_cell BK334.out 1).trans rfl; have hfz25_0 := blk_frozen BK334.out 0; have hfz25_1 := blk_frozen BK334.out 1) | (go_at_call 14; (with_reducible refine (mapsheetsref01_Floor.calls k2 x335000_2 x335001_2 t339 t340 _ A19.out).mono ?_); rintro e w' ⟨rfl, ⟨nd, rfl⟩⟩; (try first | exact ⟨rfl, _, World.drewN_drewN _ _ _⟩ | exact ⟨rfl, _, Eq.trans (World.drewN_drewN _ _ _) (congrArg (World.drewN _) (Nat.add_assoc _ _ _))⟩)) | (go_at_call 43; (with_reducible refine (mapsheetsref01_sign.calls (wrap64 (x334000_2 - (wrap64 (t337 * x334001_2)))) (wrap64 (x335000_2 - (wrap64 (t339 * x335001_2)))) t341 _ A22.out).mono ?_); rintro e w' ⟨rfl, ⟨nd, rfl⟩⟩; (try first | exact ⟨rfl, _, World.drewN_drewN _ _ _⟩ | exact ⟨rfl, _, Eq.trans (World.drewN_drewN _ _ _) (congrArg (World.drewN _) (Nat.add_assoc _ _ _))⟩)))
        repeat (go_quiet (first | (go_at_call 14; (with_reducible refine (mapsheetsref01_Floor.calls k2 x334000_2 x334001_2 t337 t338 _ A18.out).mono ?_); rintro e w' ⟨rfl, ⟨nd, rfl⟩⟩; (try first | exact ⟨rfl, _, World.drewN_drewN _ _ _⟩ | exact ⟨rfl, _, Eq.trans (World.drewN_drewN _ _ _) (congrArg (World.drewN _) (Nat.add_assoc _ _ _))⟩); have hcz25_0 : wr.cell? ⟨gb334, 0, none⟩ = some (.int .i64 x335000_2) := (blk_cell BK334.out 0).trans rfl; have hcz25_1 : wr.cell? ⟨gb334, 1, none⟩ = some (.int .i64 x335001_2) := (blk_cell BK334.out 1).trans rfl; have hfz25_0 := blk_frozen BK334.out 0; have hfz25_1 := blk_frozen BK334.out 1) | (go_at_call 14; (with_reducible refine (mapsheetsref01_Floor.calls k2 x335000_2 x335001_2 t339 t340 _ A19.out).mono ?_); rintro e w' ⟨rfl, ⟨nd, rfl⟩⟩; (try first | exact ⟨rfl, _, World.drewN_drewN _ _ _⟩ | exact ⟨rfl, _, Eq.trans (World.drewN_drewN _ _ _) (congrArg (World.drewN _) (Nat.add_assoc _ _ _))⟩)) | (go_at_call 43; (with_reducible refine (mapsheetsref01_sign.calls (wrap64 (x334000_2 - (wrap64 (t337 * x334001_2)))) (wrap64 (x335000_2 - (wrap64 (t339 * x335001_2)))) t341 _ A22.out).mono ?_); rintro e w' ⟨rfl, ⟨nd, rfl⟩⟩; (try first | exact ⟨rfl, _, World.drewN_drewN _ _ _⟩ | exact ⟨rfl, _, Eq.trans (World.drewN_drewN _ _ _) (congrArg (World.drewN _) (Nat.add_assoc _ _ _))⟩))); try go_wp2_with (first | (go_at_call 14; (with_reducible refine (mapsheetsref01_Floor.calls k2 x334000_2 x334001_2 t337 t338 _ A18.out).mono ?_); rintro e w' ⟨rfl, ⟨nd, rfl⟩⟩; (try first | exact ⟨rfl, _, World.drewN_drewN _ _ _⟩ | exact ⟨rfl, _, Eq.trans (World.drewN_drewN _ _ _) (congrArg (World.drewN _) (Nat.add_assoc _ _ _))⟩); have hcz25_0 : wr.cell? ⟨gb334, 0, none⟩ = some (.int .i64 x335000_2) := (blk_cell BK334.out 0).trans rfl; have hcz25_1 : wr.cell? ⟨gb334, 1, none⟩ = some (.int .i64 x335001_2) := (blk_cell BK334.out 1).trans rfl; have hfz25_0 := blk_frozen BK334.out 0; have hfz25_1 := blk_frozen BK334.out 1) | (go_at_call 14; (with_reducible refine (mapsheetsref01_Floor.calls k2 x335000_2 x335001_2 t339 t340 _ A19.out).mono ?_); rintro e w' ⟨rfl, ⟨nd, rfl⟩⟩; (try first | exact ⟨rfl, _, World.drewN_drewN _ _ _⟩ | exact ⟨rfl, _, Eq.trans (World.drewN_drewN _ _ _) (congrArg (World.drewN _) (Nat.add_assoc _ _ _))⟩)) | (go_at_call 43; (with_reducible refine (mapsheetsref01_sign.calls (wrap64 (x334000_2 - (wrap64 (t337 * x334001_2)))) (wrap64 (x335000_2 - (wrap64 (t339 * x335001_2)))) t341 _ A22.out).mono ?_); rintro e w' ⟨rfl, ⟨nd, rfl⟩⟩; (try first | exact ⟨rfl, _, World.drewN_drewN _ _ _⟩ | exact ⟨rfl, _, Eq.trans (World.drewN_drewN _ _ _) (congrArg (World.drewN _) (Nat.add_assoc _ _ _))⟩))))
        go_ret
        exact ⟨by first | rfl | (simp [errW_none, errW_some] <;> rfl) | (simp [*, errW_none, errW_some] <;> rfl), by repeat (first | (with_reducible first | exact HB.out | apply below_alloc | apply pw_below_drewN | apply below_drew1 | refine below_set ?_ GE333.out | refine below_set ?_ GE334.out) | exact HB.out)⟩
       ·rw [if_neg c21] at H
        have c21b0 : ((wrap64 (x334000_2 - (wrap64 (t337 * x334001_2)))) == 0) = false := beq_eq_false_iff_ne.mpr c21
        have c21b1 : ((wrap64 (x334000_2 - (wrap64 (t337 * x334001_2)))) != 0) = true := bne_iff_ne.mpr c21
        by_cases c26 : (wrap64 (x335000_2 - (wrap64 (t339 * x335001_2)))) = 0
        ·rw [if_pos c26] at H
         have c26b0 : ((wrap64 (x335000_2 - (wrap64 (t339 * x335001_2)))) == 0) = true := beq_iff_eq.mpr c26
         have c26b1 : ((wrap64 (x335000_2 - (wrap64 (t339 * x335001_2)))) != 0) = false := bne_eq_false_iff_eq.mpr c26
         clear c26
         replace H := Option.bind_eq_some_iff.mp H
         obtain ⟨t342, A270, H⟩ := H
         replace H : (some t342) = some r := H
         have A27 := Aside0.mk A270
         clear A270
         obtain rfl := Option.some.inj H
         have hnb28 := NB333_334.out
         have hnc28 := NB334_333.out
         have hcz29_0 : wr.cell? ⟨gb333, 0, none⟩ = some (.int .i64 x334000_2) := (blk_cell BK333.out 0).trans rfl
         have hcz29_1 : wr.cell? ⟨gb333, 1, none⟩ = some (.int .i64 x334001_2) := (blk_cell BK333.out 1).trans rfl
         have hfz29_0 := blk_frozen BK333.out 0
         have hfz29_1 := blk_frozen BK333.out 1
         go_wp2_with (first | (go_at_call 14; (with_reducible refine (mapsheetsref01_Floor.calls k2 x334000_2 x334001_2 t337 t338 _ A18.out).mono ?_); rintro e w' ⟨rfl, ⟨nd, rfl⟩⟩; (try first | exact ⟨rfl, _, World.drewN_drewN _ _ _⟩ | exact ⟨rfl, _, Eq.trans (World.drewN_drewN _ _ _) (congrArg (World.drewN _) (Nat.add_assoc _ _ _))⟩); have hcz30_0 : wr.cell? ⟨gb334, 0, none⟩ = some (.int .i64 x335000_2) := (blk_cell BK334.out 0).trans rfl; have hcz30_1 : wr.cell? ⟨gb334, 1, none⟩ = some (.int .i64 x335001_2) := (blk_cell BK334.out 1).trans rfl; have hfz30_0 := blk_frozen BK334.out 0; have hfz30_1 := blk_frozen BK334.out 1) | (go_at_call 14; (with_reducible refine (mapsheetsref01_Floor.calls k2 x335000_2 x335001_2 t339 t340 _ A19.out).mono ?_); rintro e w' ⟨rfl, ⟨nd, rfl⟩⟩; (try first | exact ⟨rfl, _, World.drewN_drewN _ _ _⟩ | exact ⟨rfl, _, Eq.trans (World.drewN_drewN _ _ _) (congrArg (World.drewN _) (Nat.add_assoc _ _ _))⟩)) | (go_at_call 43; (with_reducible refine (mapsheetsref01_sign.calls (wrap64 (x334000_2 - (wrap64 (t337 * x334001_2)))) (wrap64 (x335000_2 - (wrap64 (t339 * x335001_2)))) t342 _ A27.out).mono ?_); rintro e w' ⟨rfl, ⟨nd, rfl⟩⟩; (try first | exact ⟨rfl, _, World.drewN_drewN _ _ _⟩ | exact ⟨rfl, _, Eq.trans (World.drewN_drewN _ _ _) (congrArg (World.drewN _) (Nat.add_assoc _ _ _))⟩)))
         repeat (go_quiet (first | (go_at_call 14; (with_reducible refine (mapsheetsref01_Floor.calls k2 x334000_2 x334001_2 t337 t338 _ A18.out).mono ?_); rintro e w' ⟨rfl, ⟨nd, rfl⟩⟩; (try first | exact ⟨rfl, _, World.drewN_drewN _ _ _⟩ | exact ⟨rfl, _, Eq.trans (World.drewN_drewN _ _ _) (congrArg (World.drewN _) (Nat.add_assoc _ _ _))⟩); have hcz30_0 : wr.cell? ⟨gb334, 0, none⟩ = some (.int .i64 x335000_2) := (blk_cell BK334.out 0).trans rfl; have hcz30_1 : wr.cell? ⟨gb334, 1, none⟩ = some (.int .i64 x335001_2) := (blk_cell BK334.out 1).trans rfl; have hfz30_0 := blk_frozen BK334.out 0; have hfz30_1 := blk_frozen BK334.out 1) | (go_at_call 14; (with_reducible refine (mapsheetsref01_Floor.calls k2 x335000_2 x335001_2 t339 t340 _ A19.out).mono ?_); rintro e w' ⟨rfl, ⟨nd, rfl⟩⟩; (try first | exact ⟨rfl, _, World.drewN_drewN _ _ _⟩ | exact ⟨rfl, _, Eq.trans (World.drewN_drewN _ _ _) (congrArg (World.drewN _) (Nat.add_assoc _ _ _))⟩)) | (go_at_call 43; (with_reducible refine (mapsheetsref01_sign.calls (wrap64 (x334000_2 - (wrap64 (t337 * x334001_2)))) (wrap64 (x335000_2 - (wrap64 (t339 * x335001_2)))) t342 _ A27.out).mono ?_); rintro e w' ⟨rfl, ⟨nd, rfl⟩⟩; (try first | exact ⟨rfl, _, World.drewN_drewN _ _ _⟩ | exact ⟨rfl, _, Eq.trans (World.drewN_drewN _ _ _) (congrArg (World.drewN _) (Nat.add_assoc _ _ _))⟩))); try go_wp2_with (first | (go_at_call 14; (with_reducible refine (mapsheetsref01_Floor.calls k2 x334000_2 x334001_2 t337 t338 _ A18.out).mono ?_); rintro e w' ⟨rfl, ⟨nd, rfl⟩⟩; (try first | exact ⟨rfl, _, World.drewN_drewN _ _ _⟩ | exact ⟨rfl, _, Eq.trans (World.drewN_drewN _ _ _) (congrArg (World.drewN _) (Nat.add_assoc _ _ _))⟩); have hcz30_0 : wr.cell? ⟨gb334, 0, none⟩ = some (.int .i64 x335000_2) := (blk_cell BK334.out 0).trans rfl; have hcz30_1 : wr.cell? ⟨gb334, 1, none⟩ = some (.int .i64 x335001_2) := (blk_cell BK334.out 1).trans rfl; have hfz30_0 := blk_frozen BK334.out 0; have hfz30_1 := blk_frozen BK334.out 1) | (go_at_call 14; (with_reducible refine (mapsheetsref01_Floor.calls k2 x335000_2 x335001_2 t339 t340 _ A19.out).mono ?_); rintro e w' ⟨rfl, ⟨nd, rfl⟩⟩; (try first | exact ⟨rfl, _, World.drewN_drewN _ _ _⟩ | exact ⟨rfl, _, Eq.trans (World.drewN_drewN _ _ _) (congrArg (World.drewN _) (Nat.add_assoc _ _ _))⟩)) | (go_at_call 43; (with_reducible refine (mapsheetsref01_sign.calls (wrap64 (x334000_2 - (wrap64 (t337 * x334001_2)))) (wrap64 (x335000_2 - (wrap64 (t339 * x335001_2)))) t342 _ A27.out).mono ?_); rintro e w' ⟨rfl, ⟨nd, rfl⟩⟩; (try first | exact ⟨rfl, _, World.drewN_drewN _ _ _⟩ | exact ⟨rfl, _, Eq.trans (World.drewN_drewN _ _ _) (congrArg (World.drewN _) (Nat.add_assoc _ _ _))⟩))))
         go_ret
         exact ⟨by first | rfl | (simp [errW_none, errW_some] <;> rfl) | (simp [*, errW_none, errW_some] <;> rfl), by repeat (first | (with_reducible first | exact HB.out | apply below_alloc | apply pw_below_drewN | apply below_drew1 | refine below_set ?_ GE333.out | refine below_set ?_ GE334.out) | exact HB.out)⟩
        ·rw [if_neg c26] at H
         have c26b0 : ((wrap64 (x335000_2 - (wrap64 (t339 * x335001_2)))) == 0) = false := beq_eq_false_iff_ne.mpr c26
         have c26b1 : ((wrap64 (x335000_2 - (wrap64 (t339 * x335001_2)))) != 0) = true := bne_iff_ne.mpr c26
         have H' := Aside0.mk H
         clear H
         have hnb31 := NB333_334.out
         have hnc31 := NB334_333.out
         have hcz32_0 : wr.cell? ⟨gb333, 0, none⟩ = some (.int .i64 x334000_2) := (blk_cell BK333.out 0).trans rfl
         have hcz32_1 : wr.cell? ⟨gb333, 1, none⟩ = some (.int .i64 x334001_2) := (blk_cell BK333.out 1).trans rfl
         have hfz32_0 := blk_frozen BK333.out 0
         have hfz32_1 := blk_frozen BK333.out 1
         go_wp2_with (first | (go_at_call 14; (with_reducible refine (mapsheetsref01_Floor.calls k2 x334000_2 x334001_2 t337 t338 _ A18.out).mono ?_); rintro e w' ⟨rfl, ⟨nd, rfl⟩⟩; (try first | exact ⟨rfl, _, World.drewN_drewN _ _ _⟩ | exact ⟨rfl, _, Eq.trans (World.drewN_drewN _ _ _) (congrArg (World.drewN _) (Nat.add_assoc _ _ _))⟩); have hcz33_0 : wr.cell? ⟨gb334, 0, none⟩ = some (.int .i64 x335000_2) := (blk_cell BK334.out 0).trans rfl; have hcz33_1 : wr.cell? ⟨gb334, 1, none⟩ = some (.int .i64 x335001_2) := (blk_cell BK334.out 1).trans rfl; have hfz33_0 := blk_frozen BK334.out 0; have hfz33_1 := blk_frozen BK334.out 1) | (go_at_call 14; (with_reducible refine (mapsheetsref01_Floor.calls k2 x335000_2 x335001_2 t339 t340 _ A19.out).mono ?_); rintro e w' ⟨rfl, ⟨nd, rfl⟩⟩; (try first | exact ⟨rfl, _, World.drewN_drewN _ _ _⟩ | exact ⟨rfl, _, Eq.trans (World.drewN_drewN _ _ _) (congrArg (World.drewN _) (Nat.add_assoc _ _ _))⟩)))
         repeat (go_quiet (first | (go_at_call 14; (with_reducible refine (mapsheetsref01_Floor.calls k2 x334000_2 x334001_2 t337 t338 _ A18.out).mono ?_); rintro e w' ⟨rfl, ⟨nd, rfl⟩⟩; (try first | exact ⟨rfl, _, World.drewN_drewN _ _ _⟩ | exact ⟨rfl, _, Eq.trans (World.drewN_drewN _ _ _) (congrArg (World.drewN _) (Nat.add_assoc _ _ _))⟩); have hcz33_0 : wr.cell? ⟨gb334, 0, none⟩ = some (.int .i64 x335000_2) := (blk_cell BK334.out 0).trans rfl; have hcz33_1 : wr.cell? ⟨gb334, 1, none⟩ = some (.int .i64 x335001_2) := (blk_cell BK334.out 1).trans rfl; have hfz33_0 := blk_frozen BK334.out 0; have hfz33_1 := blk_frozen BK334.out 1) | (go_at_call 14; (with_reducible refine (mapsheetsref01_Floor.calls k2 x335000_2 x335001_2 t339 t340 _ A19.out).mono ?_); rintro e w' ⟨rfl, ⟨nd, rfl⟩⟩; (try first | exact ⟨rfl, _, World.drewN_drewN _ _ _⟩ | exact ⟨rfl, _, Eq.trans (World.drewN_drewN _ _ _) (congrArg (World.drewN _) (Nat.add_assoc _ _ _))⟩))); try go_wp2_with (first | (go_at_call 14; (with_reducible refine (mapsheetsref01_Floor.calls k2 x334000_2 x334001_2 t337 t338 _ A18.out).mono ?_); rintro e w' ⟨rfl, ⟨nd, rfl⟩⟩; (try first | exact ⟨rfl, _, World.drewN_drewN _ _ _⟩ | exact ⟨rfl, _, Eq.trans (World.drewN_drewN _ _ _) (congrArg (World.drewN _) (Nat.add_assoc _ _ _))⟩); have hcz33_0 : wr.cell? ⟨gb334, 0, none⟩ = some (.int .i64 x335000_2) := (blk_cell BK334.out 0).trans rfl; have hcz33_1 : wr.cell? ⟨gb334, 1, none⟩ = some (.int .i64 x335001_2) := (blk_cell BK334.out 1).trans rfl; have hfz33_0 := blk_frozen BK334.out 0; have hfz33_1 := blk_frozen BK334.out 1) | (go_at_call 14; (with_reducible refine (mapsheetsref01_Floor.calls k2 x335000_2 x335001_2 t339 t340 _ A19.out).mono ?_); rintro e w' ⟨rfl, ⟨nd, rfl⟩⟩; (try first | exact ⟨rfl, _, World.drewN_drewN _ _ _⟩ | exact ⟨rfl, _, Eq.trans (World.drewN_drewN _ _ _) (congrArg (World.drewN _) (Nat.add_assoc _ _ _))⟩))))
         go_roundg k2
         case measure => have := HJ2.out; have := HK2.out; omega
         case rel => exact ⟨(x335001_2), (wrap64 (x335000_2 - (wrap64 (t339 * x335001_2)))), (x334001_2), (wrap64 (x334000_2 - (wrap64 (t337 * x334001_2)))), H', ⟨by have := HJ2.out; have := HK2.out; omega⟩, ⟨by (with_reducible repeat (first | refine blk_drewN ?_ _ | refine blk_drew ?_ | refine blk_alloc ?_ _)); refine blk_far ?_ NB333_334.out _; (with_reducible repeat (first | refine blk_drewN ?_ _ | refine blk_drew ?_ | refine blk_alloc ?_ _)); refine blk_far ?_ NB333_334.out _; (with_reducible repeat (first | refine blk_drewN ?_ _ | refine blk_drew ?_ | refine blk_alloc ?_ _)); refine blk_put (cs := #[.int .i64 x335001_2, .int .i64 x334001_2]) ?_ 1 _ rfl; (with_reducible repeat (first | refine blk_drewN ?_ _ | refine blk_drew ?_ | refine blk_alloc ?_ _)); refine blk_put (cs := #[.int .i64 x334000_2, .int .i64 x334001_2]) ?_ 0 _ rfl; (with_reducible repeat (first | refine blk_drewN ?_ _ | refine blk_drew ?_ | refine blk_alloc ?_ _)); exact BK333.out⟩, ⟨by (with_reducible repeat (first | refine blk_drewN ?_ _ | refine blk_drew ?_ | refine blk_alloc ?_ _)); refine blk_put (cs := #[.int .i64 x334001_2, .int .i64 x335001_2]) ?_ 1 _ rfl; (with_reducible repeat (first | refine blk_drewN ?_ _ | refine blk_drew ?_ | refine blk_alloc ?_ _)); refine blk_put (cs := #[.int .i64 x335000_2, .int .i64 x335001_2]) ?_ 0 _ rfl; (with_reducible repeat (first | refine blk_drewN ?_ _ | refine blk_drew ?_ | refine blk_alloc ?_ _)); refine blk_far ?_ NB334_333.out _; (with_reducible repeat (first | refine blk_drewN ?_ _ | refine blk_drew ?_ | refine blk_alloc ?_ _)); refine blk_far ?_ NB334_333.out _; (with_reducible repeat (first | refine blk_drewN ?_ _ | refine blk_drew ?_ | refine blk_alloc ?_ _)); exact BK334.out⟩, ⟨by repeat (first | (with_reducible first | exact HB.out | apply below_alloc | apply pw_below_drewN | apply below_drew1 | refine below_set ?_ GE333.out | refine below_set ?_ GE334.out) | exact HB.out)⟩⟩
      ·rw [if_neg c20] at H
       have c20b0 : (t337 == t339) = false := beq_eq_false_iff_ne.mpr c20
       have c20b1 : (t337 != t339) = true := bne_iff_ne.mpr c20
       replace H := Option.bind_eq_some_iff.mp H
       obtain ⟨t343, A340, H⟩ := H
       replace H : (some t343) = some r := H
       have A34 := Aside0.mk A340
       clear A340
       obtain rfl := Option.some.inj H
       have hnb35 := NB333_334.out
       have hnc35 := NB334_333.out
       have hcz36_0 : wr.cell? ⟨gb333, 0, none⟩ = some (.int .i64 x334000_2) := (blk_cell BK333.out 0).trans rfl
       have hcz36_1 : wr.cell? ⟨gb333, 1, none⟩ = some (.int .i64 x334001_2) := (blk_cell BK333.out 1).trans rfl
       have hfz36_0 := blk_frozen BK333.out 0
       have hfz36_1 := blk_frozen BK333.out 1
       go_wp2_with (first | (go_at_call 14; (with_reducible refine (mapsheetsref01_Floor.calls k2 x334000_2 x334001_2 t337 t338 _ A18.out).mono ?_); rintro e w' ⟨rfl, ⟨nd, rfl⟩⟩; (try first | exact ⟨rfl, _, World.drewN_drewN _ _ _⟩ | exact ⟨rfl, _, Eq.trans (World.drewN_drewN _ _ _) (congrArg (World.drewN _) (Nat.add_assoc _ _ _))⟩); have hcz37_0 : wr.cell? ⟨gb334, 0, none⟩ = some (.int .i64 x335000_2) := (blk_cell BK334.out 0).trans rfl; have hcz37_1 : wr.cell? ⟨gb334, 1, none⟩ = some (.int .i64 x335001_2) := (blk_cell BK334.out 1).trans rfl; have hfz37_0 := blk_frozen BK334.out 0; have hfz37_1 := blk_frozen BK334.out 1) | (go_at_call 14; (with_reducible refine (mapsheetsref01_Floor.calls k2 x335000_2 x335001_2 t339 t340 _ A19.out).mono ?_); rintro e w' ⟨rfl, ⟨nd, rfl⟩⟩; (try first | exact ⟨rfl, _, World.drewN_drewN _ _ _⟩ | exact ⟨rfl, _, Eq.trans (World.drewN_drewN _ _ _) (congrArg (World.drewN _) (Nat.add_assoc _ _ _))⟩)) | (go_at_call 43; (with_reducible refine (mapsheetsref01_sign.calls t337 t339 t343 _ A34.out).mono ?_); rintro e w' ⟨rfl, ⟨nd, rfl⟩⟩; (try first | exact ⟨rfl, _, World.drewN_drewN _ _ _⟩ | exact ⟨rfl, _, Eq.trans (World.drewN_drewN _ _ _) (congrArg (World.drewN _) (Nat.add_assoc _ _ _))⟩)))
       repeat (go_quiet (first | (go_at_call 14; (with_reducible refine (mapsheetsref01_Floor.calls k2 x334000_2 x334001_2 t337 t338 _ A18.out).mono ?_); rintro e w' ⟨rfl, ⟨nd, rfl⟩⟩; (try first | exact ⟨rfl, _, World.drewN_drewN _ _ _⟩ | exact ⟨rfl, _, Eq.trans (World.drewN_drewN _ _ _) (congrArg (World.drewN _) (Nat.add_assoc _ _ _))⟩); have hcz37_0 : wr.cell? ⟨gb334, 0, none⟩ = some (.int .i64 x335000_2) := (blk_cell BK334.out 0).trans rfl; have hcz37_1 : wr.cell? ⟨gb334, 1, none⟩ = some (.int .i64 x335001_2) := (blk_cell BK334.out 1).trans rfl; have hfz37_0 := blk_frozen BK334.out 0; have hfz37_1 := blk_frozen BK334.out 1) | (go_at_call 14; (with_reducible refine (mapsheetsref01_Floor.calls k2 x335000_2 x335001_2 t339 t340 _ A19.out).mono ?_); rintro e w' ⟨rfl, ⟨nd, rfl⟩⟩; (try first | exact ⟨rfl, _, World.drewN_drewN _ _ _⟩ | exact ⟨rfl, _, Eq.trans (World.drewN_drewN _ _ _) (congrArg (World.drewN _) (Nat.add_assoc _ _ _))⟩)) | (go_at_call 43; (with_reducible refine (mapsheetsref01_sign.calls t337 t339 t343 _ A34.out).mono ?_); rintro e w' ⟨rfl, ⟨nd, rfl⟩⟩; (try first | exact ⟨rfl, _, World.drewN_drewN _ _ _⟩ | exact ⟨rfl, _, Eq.trans (World.drewN_drewN _ _ _) (congrArg (World.drewN _) (Nat.add_assoc _ _ _))⟩))); try go_wp2_with (first | (go_at_call 14; (with_reducible refine (mapsheetsref01_Floor.calls k2 x334000_2 x334001_2 t337 t338 _ A18.out).mono ?_); rintro e w' ⟨rfl, ⟨nd, rfl⟩⟩; (try first | exact ⟨rfl, _, World.drewN_drewN _ _ _⟩ | exact ⟨rfl, _, Eq.trans (World.drewN_drewN _ _ _) (congrArg (World.drewN _) (Nat.add_assoc _ _ _))⟩); have hcz37_0 : wr.cell? ⟨gb334, 0, none⟩ = some (.int .i64 x335000_2) := (blk_cell BK334.out 0).trans rfl; have hcz37_1 : wr.cell? ⟨gb334, 1, none⟩ = some (.int .i64 x335001_2) := (blk_cell BK334.out 1).trans rfl; have hfz37_0 := blk_frozen BK334.out 0; have hfz37_1 := blk_frozen BK334.out 1) | (go_at_call 14; (with_reducible refine (mapsheetsref01_Floor.calls k2 x335000_2 x335001_2 t339 t340 _ A19.out).mono ?_); rintro e w' ⟨rfl, ⟨nd, rfl⟩⟩; (try first | exact ⟨rfl, _, World.drewN_drewN _ _ _⟩ | exact ⟨rfl, _, Eq.trans (World.drewN_drewN _ _ _) (congrArg (World.drewN _) (Nat.add_assoc _ _ _))⟩)) | (go_at_call 43; (with_reducible refine (mapsheetsref01_sign.calls t337 t339 t343 _ A34.out).mono ?_); rintro e w' ⟨rfl, ⟨nd, rfl⟩⟩; (try first | exact ⟨rfl, _, World.drewN_drewN _ _ _⟩ | exact ⟨rfl, _, Eq.trans (World.drewN_drewN _ _ _) (congrArg (World.drewN _) (Nat.add_assoc _ _ _))⟩))))
       go_ret
       exact ⟨by first | rfl | (simp [errW_none, errW_some] <;> rfl) | (simp [*, errW_none, errW_some] <;> rfl), by repeat (first | (with_reducible first | exact HB.out | apply below_alloc | apply pw_below_drewN | apply below_drew1 | refine below_set ?_ GE333.out | refine below_set ?_ GE334.out) | exact HB.out)⟩

end Go.Proofs.Ytngiipodkbfokaa.PAll
