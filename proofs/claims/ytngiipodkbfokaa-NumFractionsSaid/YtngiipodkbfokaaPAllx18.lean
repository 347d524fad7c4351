-- Written by this session's own program wip/ext.py over the kit's print; not the kit's own print.
import Derived.Test.YtngiipodkbfokaaPAllx0
import Derived.Test.YtngiipodkbfokaaPAllx1
import Derived.Test.YtngiipodkbfokaaPAllx8
import Derived.Test.YtngiipodkbfokaaPAllx11
import Derived.Test.YtngiipodkbfokaaPAllx17
namespace Go.Proofs.Ytngiipodkbfokaa.PAll
open Go.RowKit Go.Proofs.YtngiipodkbfokaaW.PrintWords Go.Proofs.YtngiipodkbfokaaW.PrintLast Go.Proofs.YtngiipodkbfokaaW.PrintMore
attribute [local go_sem] max2_int min2_int max_two min_two max_three min_three max_four min_four   -- for this text's walks alone
set_option linter.unusedVariables false
set_option linter.unusedSimpArgs false

attribute [local go_sem high] eqA34
/-! ### mapsheetslaw01_NumFractions: function 8 -/
mutual
def mapsheetslaw01_NumFractions.j0 : Nat → Int → Int → Bool → Int → Int → Option (Bool)
  | 0, _, _, _, _, _ => none
  | k + 1, x2, x10, x33, x320000, x320001 => if x33 = true then (none) else (if x10 = 0 then (if x320000 > 1099511627776 then (mapsheetslaw01_NumFractions.j1 k (wrap64 (1 + (Int.tmod (wrap64 (x2)) 1000))) true x320000 x320001) else (if x320000 < (-1099511627776) then (mapsheetslaw01_NumFractions.j1 k (wrap64 (1 + (Int.tmod (wrap64 (x2)) 1000))) true x320000 x320001) else (mapsheetslaw01_NumFractions.j1 k (wrap64 (1 + (Int.tmod (wrap64 (x2)) 1000))) (decide (x320001 > 1099511627776)) x320000 x320001))) else ((mapsheetslaw01_awake.f k).bind fun t324 => (if t324 = true then (some (x320000 == 0 && (x320001 == 0))) else (none))))
def mapsheetslaw01_NumFractions.j1 : Nat → Int → Bool → Int → Int → Option (Bool)
  | 0, _, _, _, _ => none
  | k + 1, x11, x58, x320000, x320001 => if x58 = true then ((mapsheetslaw01_awake.f k).bind fun t325 => (if t325 = true then ((mapsheetsref01_Valid.f k x320000 x320001).bind fun t326 => (some t326)) else (none))) else ((num_Make.f k (wrap64 ((wrap64 (-x11)) * x320000)) (wrap64 ((wrap64 (-x11)) * x320001))).bind fun bt327 => ((mapsheetslaw01_awake.f k).bind fun t331 => (if t331 = true then ((mapsheetsref01_Valid.f k x320000 x320001).bind fun t332 => (if t332 = true then (if (bt327.1 == x320000 && (bt327.2.1 == x320001)) = true then (some (bt327.2.2 == 0)) else (none)) else (none))) else (none))))
end
def mapsheetslaw01_NumFractions.f (k : Nat) (a0 : Int) (a1 : Int) (a2 : Int) : Option (Bool) := (num_Make.f k a0 a1).bind fun bt316 => ((mapsheetsref01_Make.f k a0 a1).bind fun bt320 => (if (!(bt316.1 == bt320.1) || (!(bt316.2.1 == bt320.2.1))) = true then (mapsheetslaw01_NumFractions.j0 k a2 bt320.2.2 true bt316.1 bt316.2.1) else (mapsheetslaw01_NumFractions.j0 k a2 bt320.2.2 (bt316.2.2 != bt320.2.2) bt316.1 bt316.2.1)))
theorem mapsheetslaw01_NumFractions.mono_l : ∀ k, (∀ y0 y1 y2 y3 y4, LeO (mapsheetslaw01_NumFractions.j0 k y0 y1 y2 y3 y4) (mapsheetslaw01_NumFractions.j0 (k + 1) y0 y1 y2 y3 y4)) ∧ (∀ y0 y1 y2 y3, LeO (mapsheetslaw01_NumFractions.j1 k y0 y1 y2 y3) (mapsheetslaw01_NumFractions.j1 (k + 1) y0 y1 y2 y3))
  | 0 => ⟨fun _ _ _ _ _ r h => by simp [mapsheetslaw01_NumFractions.j0] at h, fun _ _ _ _ r h => by simp [mapsheetslaw01_NumFractions.j1] at h⟩
  | k + 1 => by
    obtain ⟨ih0, ih1⟩ := mapsheetslaw01_NumFractions.mono_l k
    refine ⟨?_, ?_⟩
    · intro y0 y1 y2 y3 y4
      unfold mapsheetslaw01_NumFractions.j0
      repeat' first
      | (with_reducible exact ih0 _ _ _ _ _)
      | (with_reducible exact ih1 _ _ _ _)
      | (with_reducible exact mapsheetslaw01_awake.mono _)
      | (with_reducible exact mapsheetsref01_Make.mono _ _ _)
      | (with_reducible exact mapsheetsref01_Valid.mono _ _ _)
      | (with_reducible exact num_Make.mono _ _ _)
      | (with_reducible exact LeO.refl _)
      | (with_reducible exact LeO.none _)
      | (with_reducible refine LeO.ite ?_ ?_)
      | (with_reducible refine LeO.bind ?_ (fun _ => ?_))
      | exact ih0 _ _ _ _ _
      | exact ih1 _ _ _ _
      | exact mapsheetslaw01_awake.mono _
      | exact mapsheetsref01_Make.mono _ _ _
      | exact mapsheetsref01_Valid.mono _ _ _
      | exact num_Make.mono _ _ _
      | exact LeO.none _
      | refine LeO.ite ?_ ?_
      | refine LeO.bind ?_ (fun _ => ?_)
    · intro y0 y1 y2 y3
      unfold mapsheetslaw01_NumFractions.j1
      repeat' first
      | (with_reducible exact ih0 _ _ _ _ _)
      | (with_reducible exact ih1 _ _ _ _)
      | (with_reducible exact mapsheetslaw01_awake.mono _)
      | (with_reducible exact mapsheetsref01_Make.mono _ _ _)
      | (with_reducible exact mapsheetsref01_Valid.mono _ _ _)
      | (with_reducible exact num_Make.mono _ _ _)
      | (with_reducible exact LeO.refl _)
      | (with_reducible exact LeO.none _)
      | (with_reducible refine LeO.ite ?_ ?_)
      | (with_reducible refine LeO.bind ?_ (fun _ => ?_))
      | exact ih0 _ _ _ _ _
      | exact ih1 _ _ _ _
      | exact mapsheetslaw01_awake.mono _
      | exact mapsheetsref01_Make.mono _ _ _
      | exact mapsheetsref01_Valid.mono _ _ _
      | exact num_Make.mono _ _ _
      | exact LeO.none _
      | refine LeO.ite ?_ ?_
      | refine LeO.bind ?_ (fun _ => ?_)
theorem mapsheetslaw01_NumFractions.mono : ∀ a0 a1 a2 k, LeO (mapsheetslaw01_NumFractions.f k a0 a1 a2) (mapsheetslaw01_NumFractions.f (k + 1) a0 a1 a2) := by
  intro a0 a1 a2 k
  obtain ⟨ih0, ih1⟩ := mapsheetslaw01_NumFractions.mono_l k
  unfold mapsheetslaw01_NumFractions.f
  repeat' first
      | (with_reducible exact ih0 _ _ _ _ _)
      | (with_reducible exact ih1 _ _ _ _)
      | (with_reducible exact mapsheetslaw01_awake.mono _)
      | (with_reducible exact mapsheetsref01_Make.mono _ _ _)
      | (with_reducible exact mapsheetsref01_Valid.mono _ _ _)
      | (with_reducible exact num_Make.mono _ _ _)
      | (with_reducible exact LeO.refl _)
      | (with_reducible exact LeO.none _)
      | (with_reducible refine LeO.ite ?_ ?_)
      | (with_reducible refine LeO.bind ?_ (fun _ => ?_))
      | exact ih0 _ _ _ _ _
      | exact ih1 _ _ _ _
      | exact mapsheetslaw01_awake.mono _
      | exact mapsheetsref01_Make.mono _ _ _
      | exact mapsheetsref01_Valid.mono _ _ _
      | exact num_Make.mono _ _ _
      | exact LeO.none _
      | refine LeO.ite ?_ ?_
      | refine LeO.bind ?_ (fun _ => ?_)
set_option maxHeartbeats 8000000 in
set_option maxRecDepth 100000 in
theorem mapsheetslaw01_NumFractions.calls (k : Nat) (a0 : Int) (a1 : Int) (a2 : Int) (r : Bool) (w : World) (h : mapsheetslaw01_NumFractions.f k a0 a1 a2 = some r) :
    Calls Try.prog 8 #[.int .i64 a0, .int .i64 a1, .int .u16 a2] w fun e w' => e = .returned (.bool r) ∧ Below w.heap.size w w' := by
 have hu34 := Try.underlying34
 have HB := Aside0.mk (Below.refl w.heap.size w)
 have H : ((num_Make.f k a0 a1).bind fun bt316 => ((mapsheetsref01_Make.f k a0 a1).bind fun bt320 => (if (!(bt316.1 == bt320.1) || (!(bt316.2.1 == bt320.2.1))) = true then (mapsheetslaw01_NumFractions.j0 k a2 bt320.2.2 true bt316.1 bt316.2.1) else (mapsheetslaw01_NumFractions.j0 k a2 bt320.2.2 (bt316.2.2 != bt320.2.2) bt316.1 bt316.2.1)))) = some r := h
 clear h
 replace H := Option.bind_eq_some_iff.mp H
 obtain ⟨⟨t316, t317, t318⟩, A40, H⟩ := H
 replace H : ((mapsheetsref01_Make.f k a0 a1).bind fun bt320 => (if (!(t316 == bt320.1) || (!(t317 == bt320.2.1))) = true then (mapsheetslaw01_NumFractions.j0 k a2 bt320.2.2 true t316 t317) else (mapsheetslaw01_NumFractions.j0 k a2 bt320.2.2 (t318 != bt320.2.2) t316 t317))) = some r := H
 have A4 := Aside0.mk A40
 clear A40
 replace H := Option.bind_eq_some_iff.mp H
 obtain ⟨⟨t320, t321, t322⟩, A50, H⟩ := H
 replace H : (if (!(t316 == t320) || (!(t317 == t321))) = true then (mapsheetslaw01_NumFractions.j0 k a2 t322 true t316 t317) else (mapsheetslaw01_NumFractions.j0 k a2 t322 (t318 != t322) t316 t317)) = some r := H
 have A5 := Aside0.mk A50
 clear A50
 have HC6 := Aside0.mk H
 clear H
 go_enter Try.func8, Try.ntmps8
 go_upto_region 3 with (first | ((with_reducible refine gate_callee (f := 23) rfl ?_); refine goesL_ (some 17) rfl rfl Try.func23 (by kernel_rfl) rfl #[.int .i64 a0, .int .i64 a1] rfl (by (try simp only [List.map_toArray, List.map_cons, List.map_nil]); first | done | rfl | (simp only [List.length_drop, List.length_take]; rfl)) ?_; (with_reducible refine (num_Make.calls k a0 a1 t316 t317 t318 _ A4.out).mono ?_); rintro e w7 ⟨rfl, hb⟩; refine ⟨_, rfl, ?_⟩; have n0_ := Aside0.mk (below_step (by repeat (first | (with_reducible first | exact HB.out | apply below_alloc | apply pw_below_drewN | apply below_drew1) | exact HB.out)) hb); clear HB; have HB := n0_; clear n0_; (try clear hb); (try clear hb2); (try clear hk); (try clear hi)) | ((with_reducible refine gate_dst (N := 7) rfl ?_); refine box_event ?hg (N := 7) ?hd (cs := #[.int .i64 0, .int .i64 0]) (t := 34) ?hr ?_; (case hd => rfl); (case hg => rfl); (case hr => first | (go_simp; done) | (go_simp; rfl)); intro gb319 hg w8 hbox hb; have n0_ := Aside0.mk (below_step (by repeat (first | (with_reducible first | exact HB.out | apply below_alloc | apply pw_below_drewN | apply below_drew1) | exact HB.out)) hb); have n1_ := Aside0.mk (hbox); have n2_ := Aside0.mk ((by rw [hg]; exact (below_size (by repeat (first | (with_reducible first | exact HB.out | apply below_alloc | apply pw_below_drewN | apply below_drew1) | exact HB.out))) : w.heap.size ≤ gb319)); have n3_ := Aside0.mk ((by rw [hg]; exact (below_size (by repeat (first | (with_reducible first | exact HB.out | apply below_alloc | apply pw_below_drewN | apply below_drew1) | exact HB.out))) : w.heap.size ≤ gb319)); clear HB; have HB := n0_; have BK319 := n1_; have GW319 := n2_; have GE319 := n3_; clear n0_ n1_ n2_ n3_; clear hb hbox hg; have hcz9_0 : w8.cell? ⟨gb319, 0, none⟩ = some (.int .i64 0) := (blk_cell BK319.out 0).trans rfl; have hcz9_1 : w8.cell? ⟨gb319, 1, none⟩ = some (.int .i64 0) := (blk_cell BK319.out 1).trans rfl; have hfz9_0 := blk_frozen BK319.out 0; have hfz9_1 := blk_frozen BK319.out 1) | ((with_reducible refine gate_callee (f := 24) rfl ?_); refine goesL_ (some 23) rfl rfl Try.func24 (by kernel_rfl) rfl #[.int .i64 a0, .int .i64 a1] rfl (by (try simp only [List.map_toArray, List.map_cons, List.map_nil]); first | done | rfl | (simp only [List.length_drop, List.length_take]; rfl)) ?_; (with_reducible refine (mapsheetsref01_Make.calls k a0 a1 t320 t321 t322 _ A5.out).mono ?_); rintro e w10 ⟨rfl, hb⟩; refine ⟨_, rfl, ?_⟩; have n0_ := Aside0.mk (blk_below (g := gb319) (o := .cells #[.int .i64 t316, .int .i64 t317] 34 (0, 0)) (by (with_reducible repeat (first | refine blk_drewN ?_ _ | refine blk_drew ?_ | refine blk_alloc ?_ _)); refine blk_put (cs := #[.int .i64 t316, .int .i64 0]) ?_ 1 _ rfl; (with_reducible repeat (first | refine blk_drewN ?_ _ | refine blk_drew ?_ | refine blk_alloc ?_ _)); refine blk_put (cs := #[.int .i64 0, .int .i64 0]) ?_ 0 _ rfl; (with_reducible repeat (first | refine blk_drewN ?_ _ | refine blk_drew ?_ | refine blk_alloc ?_ _)); exact BK319.out) hb); have n1_ := Aside0.mk (below_step (by repeat (first | (with_reducible first | exact HB.out | apply below_alloc | apply pw_below_drewN | apply below_drew1 | refine below_set ?_ GE319.out) | exact HB.out)) hb); clear BK319; clear HB; have BK319 := n0_; have HB := n1_; clear n0_ n1_; (try clear hb); (try clear hb2); (try clear hk); (try clear hi)) | ((with_reducible refine gate_dst (N := 9) rfl ?_); refine box_event ?hg (N := 9) ?hd (cs := #[.int .i64 0, .int .i64 0]) (t := 34) ?hr ?_; (case hd => rfl); (case hg => rfl); (case hr => first | (go_simp; done) | (go_simp; rfl)); intro gb323 hg w11 hbox hb; have n0_ := Aside0.mk (blk_below (g := gb319) (o := .cells #[.int .i64 t316, .int .i64 t317] 34 (0, 0)) (by (with_reducible repeat (first | refine blk_drewN ?_ _ | refine blk_drew ?_ | refine blk_alloc ?_ _)); exact BK319.out) hb); have n1_ := Aside0.mk (below_step (by repeat (first | (with_reducible first | exact HB.out | apply below_alloc | apply pw_below_drewN | apply below_drew1 | refine below_set ?_ GE319.out) | exact HB.out)) hb); have n2_ := Aside0.mk (hbox); have n3_ := Aside0.mk ((by rw [hg]; exact (below_size (by repeat (first | (with_reducible first | exact HB.out | apply below_alloc | apply pw_below_drewN | apply below_drew1 | refine below_set ?_ GE319.out) | exact HB.out))) : w.heap.size ≤ gb323)); have n4_ := Aside0.mk ((by rw [hg]; exact (below_size (by repeat (first | (with_reducible first | exact HB.out | apply below_alloc | apply pw_below_drewN | apply below_drew1 | refine below_set ?_ GE319.out) | exact HB.out))) : w.heap.size ≤ gb323)); have n5_ := Aside0.mk ((by rw [hg]; exact Nat.ne_of_lt (blk_lt (g := gb319) (o := .cells #[.int .i64 t316, .int .i64 t317] 34 (0, 0)) (by (with_reducible repeat (first | refine blk_drewN ?_ _ | refine blk_drew ?_ | refine blk_alloc ?_ _)); exact BK319.out)) : gb319 ≠ gb323)); have n6_ := Aside0.mk ((by rw [hg]; exact Nat.ne_of_gt (blk_lt (g := gb319) (o := .cells #[.int .i64 t316, .int .i64 t317] 34 (0, 0)) (by (with_reducible repeat (first | refine blk_drewN ?_ _ | refine blk_drew ?_ | refine blk_alloc ?_ _)); exact BK319.out)) : gb323 ≠ gb319)); clear BK319; clear HB; have BK319 := n0_; have HB := n1_; have BK323 := n2_; have GW323 := n3_; have GE323 := n4_; have NB319_323 := n5_; have NB323_319 := n6_; clear n0_ n1_ n2_ n3_ n4_ n5_ n6_; clear hb hbox hg; have hnb12 := NB323_319.out; have hnc12 := NB319_323.out; have hcz13_0 : w11.cell? ⟨gb323, 0, none⟩ = some (.int .i64 0) := (blk_cell BK323.out 0).trans rfl; have hcz13_1 : w11.cell? ⟨gb323, 1, none⟩ = some (.int .i64 0) := (blk_cell BK323.out 1).trans rfl; have hfz13_0 := blk_frozen BK323.out 0; have hfz13_1 := blk_frozen BK323.out 1))
 (try simp only [Act.put, List.setIfInBounds_toArray, List.set_cons_zero, List.set_cons_succ])
 go_cut [33] (fun v33 wc => ∃ (kq : Nat) (x33_5 : Bool), v33 = .bool x33_5 ∧ Aside0 (mapsheetslaw01_NumFractions.j0 kq a2 t322 x33_5 t316 t317 = some r) ∧ Aside0 (kq ≤ k) ∧ Aside0 (wc.heap[gb319]? = some (.cells #[.int .i64 t316, .int .i64 t317] 34 (0, 0))) ∧ Aside0 (wc.heap[gb323]? = some (.cells #[.int .i64 t320, .int .i64 t321] 34 (0, 0))) ∧ Aside0 (Below w.heap.size w wc))
 case first =>
  have H := HC6.out
  clear HC6
  by_cases c14 : (!(t316 == t320) || (!(t317 == t321))) = true
  ·rw [if_pos c14] at H
   have c14b0 : (!(t316 == t320) || (!(t317 == t321))) = true := c14
   clear c14
   (first | rw [c14b0] | (simp only [i64_w, i32_w]; rw [c14b0]) | skip)
   have H' := Aside0.mk H
   clear H
   have hnb15 := NB319_323.out
   have hnc15 := NB323_319.out
   have hcz16_0 : w11.cell? ⟨gb319, 0, none⟩ = some (.int .i64 t316) := (blk_cell BK319.out 0).trans rfl
   have hcz16_1 : w11.cell? ⟨gb319, 1, none⟩ = some (.int .i64 t317) := (blk_cell BK319.out 1).trans rfl
   have hfz16_0 := blk_frozen BK319.out 0
   have hfz16_1 := blk_frozen BK319.out 1
   have hcz17_0 : w11.cell? ⟨gb323, 0, none⟩ = some (.int .i64 0) := (blk_cell BK323.out 0).trans rfl
   have hcz17_1 : w11.cell? ⟨gb323, 1, none⟩ = some (.int .i64 0) := (blk_cell BK323.out 1).trans rfl
   have hfz17_0 := blk_frozen BK323.out 0
   have hfz17_1 := blk_frozen BK323.out 1
   go_wp2
   go_meet
   case rel => exact ⟨_, (true), (by first | rfl | (simp; done) | (simp [*]; done)), H', ⟨by first | omega | exact Nat.le_refl _⟩, ⟨by (with_reducible repeat (first | refine blk_drewN ?_ _ | refine blk_drew ?_ | refine blk_alloc ?_ _)); refine blk_far ?_ NB319_323.out _; (with_reducible repeat (first | refine blk_drewN ?_ _ | refine blk_drew ?_ | refine blk_alloc ?_ _)); refine blk_far ?_ NB319_323.out _; (with_reducible repeat (first | refine blk_drewN ?_ _ | refine blk_drew ?_ | refine blk_alloc ?_ _)); exact BK319.out⟩, ⟨by (with_reducible repeat (first | refine blk_drewN ?_ _ | refine blk_drew ?_ | refine blk_alloc ?_ _)); refine blk_put (cs := #[.int .i64 t320, .int .i64 0]) ?_ 1 _ rfl; (with_reducible repeat (first | refine blk_drewN ?_ _ | refine blk_drew ?_ | refine blk_alloc ?_ _)); refine blk_put (cs := #[.int .i64 0, .int .i64 0]) ?_ 0 _ rfl; (with_reducible repeat (first | refine blk_drewN ?_ _ | refine blk_drew ?_ | refine blk_alloc ?_ _)); exact BK323.out⟩, ⟨by repeat (first | (with_reducible first | exact HB.out | apply below_alloc | apply pw_below_drewN | apply below_drew1 | refine below_set ?_ GE319.out | refine below_set ?_ GE323.out) | exact HB.out)⟩⟩
  ·rw [if_neg c14] at H
   have c14b0 : (!(t316 == t320) || (!(t317 == t321))) = false := by simpa using c14
   clear c14
   (first | rw [c14b0] | (simp only [i64_w, i32_w]; rw [c14b0]) | skip)
   have H' := Aside0.mk H
   clear H
   have hnb18 := NB319_323.out
   have hnc18 := NB323_319.out
   have hcz19_0 : w11.cell? ⟨gb319, 0, none⟩ = some (.int .i64 t316) := (blk_cell BK319.out 0).trans rfl
   have hcz19_1 : w11.cell? ⟨gb319, 1, none⟩ = some (.int .i64 t317) := (blk_cell BK319.out 1).trans rfl
   have hfz19_0 := blk_frozen BK319.out 0
   have hfz19_1 := blk_frozen BK319.out 1
   have hcz20_0 : w11.cell? ⟨gb323, 0, none⟩ = some (.int .i64 0) := (blk_cell BK323.out 0).trans rfl
   have hcz20_1 : w11.cell? ⟨gb323, 1, none⟩ = some (.int .i64 0) := (blk_cell BK323.out 1).trans rfl
   have hfz20_0 := blk_frozen BK323.out 0
   have hfz20_1 := blk_frozen BK323.out 1
   go_wp2
   go_meet
   case rel => exact ⟨_, ((t318 != t322)), (by first | rfl | (simp; done) | (simp [*]; done)), H', ⟨by first | omega | exact Nat.le_refl _⟩, ⟨by (with_reducible repeat (first | refine blk_drewN ?_ _ | refine blk_drew ?_ | refine blk_alloc ?_ _)); refine blk_far ?_ NB319_323.out _; (with_reducible repeat (first | refine blk_drewN ?_ _ | refine blk_drew ?_ | refine blk_alloc ?_ _)); refine blk_far ?_ NB319_323.out _; (with_reducible repeat (first | refine blk_drewN ?_ _ | refine blk_drew ?_ | refine blk_alloc ?_ _)); exact BK319.out⟩, ⟨by (with_reducible repeat (first | refine blk_drewN ?_ _ | refine blk_drew ?_ | refine blk_alloc ?_ _)); refine blk_put (cs := #[.int .i64 t320, .int .i64 0]) ?_ 1 _ rfl; (with_reducible repeat (first | refine blk_drewN ?_ _ | refine blk_drew ?_ | refine blk_alloc ?_ _)); refine blk_put (cs := #[.int .i64 0, .int .i64 0]) ?_ 0 _ rfl; (with_reducible repeat (first | refine blk_drewN ?_ _ | refine blk_drew ?_ | refine blk_alloc ?_ _)); exact BK323.out⟩, ⟨by repeat (first | (with_reducible first | exact HB.out | apply below_alloc | apply pw_below_drewN | apply below_drew1 | refine below_set ?_ GE319.out | refine below_set ?_ GE323.out) | exact HB.out)⟩⟩
 case rest =>
  clear HC6
  try clear c1
  try clear c2
  try clear p2
  try clear c8
  try clear c12
  try clear c14
  try clear c14b0
  try clear c15
  try clear c18
  try clear hcz13_0
  try clear hcz13_1
  try clear hcz16_0
  try clear hcz16_1
  try clear hcz17_0
  try clear hcz17_1
  try clear hcz19_0
  try clear hcz19_1
  try clear hcz20_0
  try clear hcz20_1
  try clear hcz9_0
  try clear hcz9_1
  try clear hfz13_0
  try clear hfz13_1
  try clear hfz16_0
  try clear hfz16_1
  try clear hfz17_0
  try clear hfz17_1
  try clear hfz19_0
  try clear hfz19_1
  try clear hfz20_0
  try clear hfz20_1
  try clear hfz9_0
  try clear hfz9_1
  obtain ⟨kq, x33_5, rfl, HA, HJ5, BK319, BK323, HB⟩ := hcut
  cases kq with
  | zero => exact absurd HA.out (by simp [mapsheetslaw01_NumFractions.j0])
  | succ kj5 =>
   have H := HA.out
   clear HA
   simp only [mapsheetslaw01_NumFractions.j0] at H
   by_cases c21 : x33_5 = true
   ·subst c21
    have H1 : (none) = some r := by rw [if_pos rfl] at H; exact H
    clear H
    have H := H1
    clear H1
    exact absurd H (by simp)
   ·replace c21 := Bool.eq_false_iff.mpr c21
    subst c21
    have H1 : (if t322 = 0 then (if t316 > 1099511627776 then (mapsheetslaw01_NumFractions.j1 kj5 (wrap64 (1 + (Int.tmod (wrap64 (a2)) 1000))) true t316 t317) else (if t316 < (-1099511627776) then (mapsheetslaw01_NumFractions.j1 kj5 (wrap64 (1 + (Int.tmod (wrap64 (a2)) 1000))) true t316 t317) else (mapsheetslaw01_NumFractions.j1 kj5 (wrap64 (1 + (Int.tmod (wrap64 (a2)) 1000))) (decide (t317 > 1099511627776)) t316 t317))) else ((mapsheetslaw01_awake.f kj5).bind fun t324 => (if t324 = true then (some (t316 == 0 && (t317 == 0))) else (none)))) = some r := by rw [if_neg (show ¬ (false = true) by decide)] at H; exact H
    clear H
    have H := H1
    clear H1
    by_cases c22 : t322 = 0
    ·rw [if_pos c22] at H
     have c22b0 : (t322 == 0) = true := beq_iff_eq.mpr c22
     have c22b1 : (t322 != 0) = false := bne_eq_false_iff_eq.mpr c22
     clear c22
     have HC23 := Aside0.mk H
     clear H
     go_upto_region 8 with (fail)
     go_cut [58] (fun v58 wc => ∃ (kq : Nat) (x58_22 : Bool), v58 = .bool x58_22 ∧ Aside0 (mapsheetslaw01_NumFractions.j1 kq (wrap64 (1 + (Int.tmod (wrap64 (a2)) 1000))) x58_22 t316 t317 = some r) ∧ Aside0 (kq ≤ kj5) ∧ Aside0 (wc.heap[gb319]? = some (.cells #[.int .i64 t316, .int .i64 t317] 34 (0, 0))) ∧ Aside0 (wc.heap[gb323]? = some (.cells #[.int .i64 t320, .int .i64 t321] 34 (0, 0))) ∧ Aside0 (Below w.heap.size w wc))
     case first =>
      have H := HC23.out
      clear HC23
      by_cases c24 : t316 > 1099511627776
      ·rw [if_pos c24] at H
       have c24b0 : decide (1099511627776 < t316) = true := decide_eq_true c24
       clear c24
       (first | rw [c24b0] | (simp only [i64_w, i32_w]; rw [c24b0]) | skip)
       have H' := Aside0.mk H
       clear H
       have hnb25 := NB319_323.out
       have hnc25 := NB323_319.out
       have hcz26_0 : wc.cell? ⟨gb319, 0, none⟩ = some (.int .i64 t316) := (blk_cell BK319.out 0).trans rfl
       have hcz26_1 : wc.cell? ⟨gb319, 1, none⟩ = some (.int .i64 t317) := (blk_cell BK319.out 1).trans rfl
       have hfz26_0 := blk_frozen BK319.out 0
       have hfz26_1 := blk_frozen BK319.out 1
       go_wp2
       go_meet
       case rel => exact ⟨_, (true), (by first | rfl | (simp; done) | (simp [*]; done)), H', ⟨by have := HJ5.out; first | omega | exact Nat.le_refl _⟩, ⟨by (with_reducible repeat (first | refine blk_drewN ?_ _ | refine blk_drew ?_ | refine blk_alloc ?_ _)); exact BK319.out⟩, ⟨by (with_reducible repeat (first | refine blk_drewN ?_ _ | refine blk_drew ?_ | refine blk_alloc ?_ _)); exact BK323.out⟩, ⟨by repeat (first | (with_reducible first | exact HB.out | apply below_alloc | apply pw_below_drewN | apply below_drew1 | refine below_set ?_ GE319.out | refine below_set ?_ GE323.out) | exact HB.out)⟩⟩
      ·rw [if_neg c24] at H
       have c24b0 : decide (1099511627776 < t316) = false := decide_eq_false c24
       clear c24
       (first | rw [c24b0] | (simp only [i64_w, i32_w]; rw [c24b0]) | skip)
       by_cases c27 : t316 < (-1099511627776)
       ·rw [if_pos c27] at H
        have c27b0 : decide (t316 < (-1099511627776)) = true := decide_eq_true c27
        clear c27
        have H' := Aside0.mk H
        clear H
        have hnb28 := NB319_323.out
        have hnc28 := NB323_319.out
        have hcz29_0 : wc.cell? ⟨gb319, 0, none⟩ = some (.int .i64 t316) := (blk_cell BK319.out 0).trans rfl
        have hcz29_1 : wc.cell? ⟨gb319, 1, none⟩ = some (.int .i64 t317) := (blk_cell BK319.out 1).trans rfl
        have hfz29_0 := blk_frozen BK319.out 0
        have hfz29_1 := blk_frozen BK319.out 1
        go_wp2
        go_meet
        case rel => exact ⟨_, (true), (by first | rfl | (simp; done) | (simp [*]; done)), H', ⟨by have := HJ5.out; first | omega | exact Nat.le_refl _⟩, ⟨by (with_reducible repeat (first | refine blk_drewN ?_ _ | refine blk_drew ?_ | refine blk_alloc ?_ _)); exact BK319.out⟩, ⟨by (with_reducible repeat (first | refine blk_drewN ?_ _ | refine blk_drew ?_ | refine blk_alloc ?_ _)); exact BK323.out⟩, ⟨by repeat (first | (with_reducible first | exact HB.out | apply below_alloc | apply pw_below_drewN | apply below_drew1 | refine below_set ?_ GE319.out | refine below_set ?_ GE323.out) | exact HB.out)⟩⟩
       ·rw [if_neg c27] at H
        have c27b0 : decide (t316 < (-1099511627776)) = false := decide_eq_false c27
        clear c27
        have H' := Aside0.mk H
        clear H
        have hnb30 := NB319_323.out
        have hnc30 := NB323_319.out
        have hcz31_0 : wc.cell? ⟨gb319, 0, none⟩ = some (.int .i64 t316) := (blk_cell BK319.out 0).trans rfl
        have hcz31_1 : wc.cell? ⟨gb319, 1, none⟩ = some (.int .i64 t317) := (blk_cell BK319.out 1).trans rfl
        have hfz31_0 := blk_frozen BK319.out 0
        have hfz31_1 := blk_frozen BK319.out 1
        go_wp2
        go_meet
        case rel => exact ⟨_, (decide (t317 > 1099511627776)), (by first | rfl | (simp; done) | (simp [*]; done)), H', ⟨by have := HJ5.out; first | omega | exact Nat.le_refl _⟩, ⟨by (with_reducible repeat (first | refine blk_drewN ?_ _ | refine blk_drew ?_ | refine blk_alloc ?_ _)); exact BK319.out⟩, ⟨by (with_reducible repeat (first | refine blk_drewN ?_ _ | refine blk_drew ?_ | refine blk_alloc ?_ _)); exact BK323.out⟩, ⟨by repeat (first | (with_reducible first | exact HB.out | apply below_alloc | apply pw_below_drewN | apply below_drew1 | refine below_set ?_ GE319.out | refine below_set ?_ GE323.out) | exact HB.out)⟩⟩
     case rest =>
      clear HC23
      try clear c1
      try clear c2
      try clear p2
      try clear c3
      try clear p6
      try clear c8
      try clear c12
      try clear c14
      try clear c14b0
      try clear c15
      try clear c18
      try clear c21
      try clear c22
      try clear c22b0
      try clear c22b1
      try clear c23
      try clear c24
      try clear c24b0
      try clear c25
      try clear c27
      try clear c27b0
      try clear c28
      try clear c30
      try clear hcz13_0
      try clear hcz13_1
      try clear hcz16_0
      try clear hcz16_1
      try clear hcz17_0
      try clear hcz17_1
      try clear hcz19_0
      try clear hcz19_1
      try clear hcz20_0
      try clear hcz20_1
      try clear hcz26_0
      try clear hcz26_1
      try clear hcz29_0
      try clear hcz29_1
      try clear hcz31_0
      try clear hcz31_1
      try clear hcz9_0
      try clear hcz9_1
      try clear hfz13_0
      try clear hfz13_1
      try clear hfz16_0
      try clear hfz16_1
      try clear hfz17_0
      try clear hfz17_1
      try clear hfz19_0
      try clear hfz19_1
      try clear hfz20_0
      try clear hfz20_1
      try clear hfz26_0
      try clear hfz26_1
      try clear hfz29_0
      try clear hfz29_1
      try clear hfz31_0
      try clear hfz31_1
      try clear hfz9_0
      try clear hfz9_1
      try clear p2
      obtain ⟨kq, x58_22, rfl, HA, HJ22, BK319, BK323, HB⟩ := hcut
      cases kq with
      | zero => exact absurd HA.out (by simp [mapsheetslaw01_NumFractions.j1])
      | succ kj22 =>
       have H := HA.out
       clear HA
       simp only [mapsheetslaw01_NumFractions.j1] at H
       by_cases c32 : x58_22 = true
       ·subst c32
        have H1 : ((mapsheetslaw01_awake.f kj22).bind fun t325 => (if t325 = true then ((mapsheetsref01_Valid.f kj22 t316 t317).bind fun t326 => (some t326)) else (none))) = some r := by rw [if_pos rfl] at H; exact H
        clear H
        have H := H1
        clear H1
        replace H := Option.bind_eq_some_iff.mp H
        obtain ⟨t325, A330, H⟩ := H
        replace H : (if t325 = true then ((mapsheetsref01_Valid.f kj22 t316 t317).bind fun t326 => (some t326)) else (none)) = some r := H
        have A33 := Aside0.mk A330
        clear A330
        by_cases c34 : t325 = true
        ·subst c34
         have H1 : ((mapsheetsref01_Valid.f kj22 t316 t317).bind fun t326 => (some t326)) = some r := by rw [if_pos rfl] at H; exact H
         clear H
         have H := H1
         clear H1
         replace H := Option.bind_eq_some_iff.mp H
         obtain ⟨t326, A350, H⟩ := H
         replace H : (some t326) = some r := H
         have A35 := Aside0.mk A350
         clear A350
         obtain rfl := Option.some.inj H
         go_wp2_with (first | ((with_reducible refine gate_callee (f := 17) rfl ?_); refine goesL_ (some 59) rfl rfl Try.func17 (by kernel_rfl) rfl #[] rfl (by (try simp only [List.map_toArray, List.map_cons, List.map_nil]); first | done | rfl | (simp only [List.length_drop, List.length_take]; rfl)) ?_; (with_reducible refine (mapsheetslaw01_awake.calls kj22  true _ A33.out).mono ?_); rintro e w36 ⟨rfl, hb⟩; refine ⟨_, rfl, ?_⟩; have n0_ := Aside0.mk (blk_below (g := gb319) (o := .cells #[.int .i64 t316, .int .i64 t317] 34 (0, 0)) (by (with_reducible repeat (first | refine blk_drewN ?_ _ | refine blk_drew ?_ | refine blk_alloc ?_ _)); exact BK319.out) hb); have n1_ := Aside0.mk (blk_below (g := gb323) (o := .cells #[.int .i64 t320, .int .i64 t321] 34 (0, 0)) (by (with_reducible repeat (first | refine blk_drewN ?_ _ | refine blk_drew ?_ | refine blk_alloc ?_ _)); exact BK323.out) hb); have n2_ := Aside0.mk (below_step (by repeat (first | (with_reducible first | exact HB.out | apply below_alloc | apply pw_below_drewN | apply below_drew1 | refine below_set ?_ GE319.out | refine below_set ?_ GE323.out) | exact HB.out)) hb); clear BK319; clear BK323; clear HB; have BK319 := n0_; have BK323 := n1_; have HB := n2_; clear n0_ n1_ n2_; (try clear hb); (try clear hb2); (try clear hk); (try clear hi); have hnb37 := NB319_323.out; have hnc37 := NB323_319.out; have hcz38_0 : w36.cell? ⟨gb319, 0, none⟩ = some (.int .i64 t316) := (blk_cell BK319.out 0).trans rfl; have hcz38_1 : w36.cell? ⟨gb319, 1, none⟩ = some (.int .i64 t317) := (blk_cell BK319.out 1).trans rfl; have hfz38_0 := blk_frozen BK319.out 0; have hfz38_1 := blk_frozen BK319.out 1) | (go_at_call 25; (with_reducible refine (mapsheetsref01_Valid.calls kj22 t316 t317 t326 _ A35.out).mono ?_); rintro e w39 ⟨rfl, hb⟩; have n0_ := Aside0.mk (blk_below (g := gb319) (o := .cells #[.int .i64 t316, .int .i64 t317] 34 (0, 0)) (by (with_reducible repeat (first | refine blk_drewN ?_ _ | refine blk_drew ?_ | refine blk_alloc ?_ _)); exact BK319.out) hb); have n1_ := Aside0.mk (blk_below (g := gb323) (o := .cells #[.int .i64 t320, .int .i64 t321] 34 (0, 0)) (by (with_reducible repeat (first | refine blk_drewN ?_ _ | refine blk_drew ?_ | refine blk_alloc ?_ _)); exact BK323.out) hb); have n2_ := Aside0.mk (below_step (by repeat (first | (with_reducible first | exact HB.out | apply below_alloc | apply pw_below_drewN | apply below_drew1 | refine below_set ?_ GE319.out | refine below_set ?_ GE323.out) | exact HB.out)) hb); clear BK319; clear BK323; clear HB; have BK319 := n0_; have BK323 := n1_; have HB := n2_; clear n0_ n1_ n2_; (try clear hb); (try clear hb2); (try clear hk); (try clear hi)))
         go_ret
         exact ⟨by first | rfl | (simp [errW_none, errW_some] <;> rfl) | (simp [*, errW_none, errW_some] <;> rfl), by repeat (first | (with_reducible first | exact HB.out | apply below_alloc | apply pw_below_drewN | apply below_drew1 | refine below_set ?_ GE319.out | refine below_set ?_ GE323.out) | exact HB.out)⟩
        ·replace c34 := Bool.eq_false_iff.mpr c34
         subst c34
         have H1 : (none) = some r := by rw [if_neg (show ¬ (false = true) by decide)] at H; exact H
         clear H
         have H := H1
         clear H1
         exact absurd H (by simp)
       ·replace c32 := Bool.eq_false_iff.mpr c32
        subst c32
        have H1 : ((num_Make.f kj22 (wrap64 ((wrap64 (-(wrap64 (1 + (Int.tmod (wrap64 (a2)) 1000))))) * t316)) (wrap64 ((wrap64 (-(wrap64 (1 + (Int.tmod (wrap64 (a2)) 1000))))) * t317))).bind fun bt327 => ((mapsheetslaw01_awake.f kj22).bind fun t331 => (if t331 = true then ((mapsheetsref01_Valid.f kj22 t316 t317).bind fun t332 => (if t332 = true then (if (bt327.1 == t316 && (bt327.2.1 == t317)) = true then (some (bt327.2.2 == 0)) else (none)) else (none))) else (none)))) = some r := by rw [if_neg (show ¬ (false = true) by decide)] at H; exact H
        clear H
        have H := H1
        clear H1
        replace H := Option.bind_eq_some_iff.mp H
        obtain ⟨⟨t327, t328, t329⟩, A400, H⟩ := H
        replace H : ((mapsheetslaw01_awake.f kj22).bind fun t331 => (if t331 = true then ((mapsheetsref01_Valid.f kj22 t316 t317).bind fun t332 => (if t332 = true then (if (t327 == t316 && (t328 == t317)) = true then (some (t329 == 0)) else (none)) else (none))) else (none))) = some r := H
        have A40 := Aside0.mk A400
        clear A400
        replace H := Option.bind_eq_some_iff.mp H
        obtain ⟨t331, A410, H⟩ := H
        replace H : (if t331 = true then ((mapsheetsref01_Valid.f kj22 t316 t317).bind fun t332 => (if t332 = true then (if (t327 == t316 && (t328 == t317)) = true then (some (t329 == 0)) else (none)) else (none))) else (none)) = some r := H
        have A41 := Aside0.mk A410
        clear A410
        by_cases c42 : t331 = true
        ·subst c42
         have H1 : ((mapsheetsref01_Valid.f kj22 t316 t317).bind fun t332 => (if t332 = true then (if (t327 == t316 && (t328 == t317)) = true then (some (t329 == 0)) else (none)) else (none))) = some r := by rw [if_pos rfl] at H; exact H
         clear H
         have H := H1
         clear H1
         replace H := Option.bind_eq_some_iff.mp H
         obtain ⟨t332, A430, H⟩ := H
         replace H : (if t332 = true then (if (t327 == t316 && (t328 == t317)) = true then (some (t329 == 0)) else (none)) else (none)) = some r := H
         have A43 := Aside0.mk A430
         clear A430
         by_cases c44 : t332 = true
         ·subst c44
          have H1 : (if (t327 == t316 && (t328 == t317)) = true then (some (t329 == 0)) else (none)) = some r := by rw [if_pos rfl] at H; exact H
          clear H
          have H := H1
          clear H1
          by_cases c45 : (t327 == t316 && (t328 == t317)) = true
          ·rw [if_pos c45] at H
           have c45b0 : (t327 == t316 && (t328 == t317)) = true := c45
           (try (have c45b1 : decide (t327 = t316 && (t328 == t317)) = true := by simpa using c45))
           (try (have c45b2 : (t327 == t316 && (t328 == t317)) = true := by simpa using c45))
           clear c45
           obtain rfl := Option.some.inj H
           have hnb46 := NB319_323.out
           have hnc46 := NB323_319.out
           have hcz47_0 : wc.cell? ⟨gb319, 0, none⟩ = some (.int .i64 t316) := (blk_cell BK319.out 0).trans rfl
           have hcz47_1 : wc.cell? ⟨gb319, 1, none⟩ = some (.int .i64 t317) := (blk_cell BK319.out 1).trans rfl
           have hfz47_0 := blk_frozen BK319.out 0
           have hfz47_1 := blk_frozen BK319.out 1
           go_wp2_with (first | ((with_reducible refine gate_callee (f := 23) rfl ?_); refine goesL_ (some 75) rfl rfl Try.func23 (by kernel_rfl) rfl #[.int .i64 (wrap64 ((wrap64 (-(wrap64 (1 + (Int.tmod (wrap64 (a2)) 1000))))) * t316)), .int .i64 (wrap64 ((wrap64 (-(wrap64 (1 + (Int.tmod (wrap64 (a2)) 1000))))) * t317))] rfl (by (try simp only [List.map_toArray, List.map_cons, List.map_nil]); first | done | rfl | (simp only [List.length_drop, List.length_take]; rfl)) ?_; (with_reducible refine (num_Make.calls kj22 (wrap64 ((wrap64 (-(wrap64 (1 + (Int.tmod (wrap64 (a2)) 1000))))) * t316)) (wrap64 ((wrap64 (-(wrap64 (1 + (Int.tmod (wrap64 (a2)) 1000))))) * t317)) t327 t328 t329 _ A40.out).mono ?_); rintro e w48 ⟨rfl, hb⟩; refine ⟨_, rfl, ?_⟩; have n0_ := Aside0.mk (blk_below (g := gb319) (o := .cells #[.int .i64 t316, .int .i64 t317] 34 (0, 0)) (by (with_reducible repeat (first | refine blk_drewN ?_ _ | refine blk_drew ?_ | refine blk_alloc ?_ _)); exact BK319.out) hb); have n1_ := Aside0.mk (blk_below (g := gb323) (o := .cells #[.int .i64 t320, .int .i64 t321] 34 (0, 0)) (by (with_reducible repeat (first | refine blk_drewN ?_ _ | refine blk_drew ?_ | refine blk_alloc ?_ _)); exact BK323.out) hb); have n2_ := Aside0.mk (below_step (by repeat (first | (with_reducible first | exact HB.out | apply below_alloc | apply pw_below_drewN | apply below_drew1 | refine below_set ?_ GE319.out | refine below_set ?_ GE323.out) | exact HB.out)) hb); clear BK319; clear BK323; clear HB; have BK319 := n0_; have BK323 := n1_; have HB := n2_; clear n0_ n1_ n2_; (try clear hb); (try clear hb2); (try clear hk); (try clear hi)) | ((with_reducible refine gate_dst (N := 12) rfl ?_); refine box_event ?hg (N := 12) ?hd (cs := #[.int .i64 0, .int .i64 0]) (t := 34) ?hr ?_; (case hd => rfl); (case hg => rfl); (case hr => first | (go_simp; done) | (go_simp; rfl)); intro gb330 hg w49 hbox hb; have n0_ := Aside0.mk (blk_below (g := gb319) (o := .cells #[.int .i64 t316, .int .i64 t317] 34 (0, 0)) (by (with_reducible repeat (first | refine blk_drewN ?_ _ | refine blk_drew ?_ | refine blk_alloc ?_ _)); exact BK319.out) hb); have n1_ := Aside0.mk (blk_below (g := gb323) (o := .cells #[.int .i64 t320, .int .i64 t321] 34 (0, 0)) (by (with_reducible repeat (first | refine blk_drewN ?_ _ | refine blk_drew ?_ | refine blk_alloc ?_ _)); exact BK323.out) hb); have n2_ := Aside0.mk (below_step (by repeat (first | (with_reducible first | exact HB.out | apply below_alloc | apply pw_below_drewN | apply below_drew1 | refine below_set ?_ GE319.out | refine below_set ?_ GE323.out) | exact HB.out)) hb); have n3_ := Aside0.mk (hbox); have n4_ := Aside0.mk ((by rw [hg]; exact (below_size (by repeat (first | (with_reducible first | exact HB.out | apply below_alloc | apply pw_below_drewN | apply below_drew1 | refine below_set ?_ GE319.out | refine below_set ?_ GE323.out) | exact HB.out))) : w.heap.size ≤ gb330)); have n5_ := Aside0.mk ((by rw [hg]; exact (below_size (by repeat (first | (with_reducible first | exact HB.out | apply below_alloc | apply pw_below_drewN | apply below_drew1 | refine below_set ?_ GE319.out | refine below_set ?_ GE323.out) | exact HB.out))) : w.heap.size ≤ gb330)); have n6_ := Aside0.mk ((by rw [hg]; exact Nat.ne_of_lt (blk_lt (g := gb319) (o := .cells #[.int .i64 t316, .int .i64 t317] 34 (0, 0)) (by (with_reducible repeat (first | refine blk_drewN ?_ _ | refine blk_drew ?_ | refine blk_alloc ?_ _)); exact BK319.out)) : gb319 ≠ gb330)); have n7_ := Aside0.mk ((by rw [hg]; exact Nat.ne_of_gt (blk_lt (g := gb319) (o := .cells #[.int .i64 t316, .int .i64 t317] 34 (0, 0)) (by (with_reducible repeat (first | refine blk_drewN ?_ _ | refine blk_drew ?_ | refine blk_alloc ?_ _)); exact BK319.out)) : gb330 ≠ gb319)); have n8_ := Aside0.mk ((by rw [hg]; exact Nat.ne_of_lt (blk_lt (g := gb323) (o := .cells #[.int .i64 t320, .int .i64 t321] 34 (0, 0)) (by (with_reducible repeat (first | refine blk_drewN ?_ _ | refine blk_drew ?_ | refine blk_alloc ?_ _)); exact BK323.out)) : gb323 ≠ gb330)); have n9_ := Aside0.mk ((by rw [hg]; exact Nat.ne_of_gt (blk_lt (g := gb323) (o := .cells #[.int .i64 t320, .int .i64 t321] 34 (0, 0)) (by (with_reducible repeat (first | refine blk_drewN ?_ _ | refine blk_drew ?_ | refine blk_alloc ?_ _)); exact BK323.out)) : gb330 ≠ gb323)); clear BK319; clear BK323; clear HB; have BK319 := n0_; have BK323 := n1_; have HB := n2_; have BK330 := n3_; have GW330 := n4_; have GE330 := n5_; have NB319_330 := n6_; have NB330_319 := n7_; have NB323_330 := n8_; have NB330_323 := n9_; clear n0_ n1_ n2_ n3_ n4_ n5_ n6_ n7_ n8_ n9_; clear hb hbox hg; have hnb50 := NB330_319.out; have hnc50 := NB319_330.out; have hnb51 := NB330_323.out; have hnc51 := NB323_330.out; have hcz52_0 : w49.cell? ⟨gb330, 0, none⟩ = some (.int .i64 0) := (blk_cell BK330.out 0).trans rfl; have hcz52_1 : w49.cell? ⟨gb330, 1, none⟩ = some (.int .i64 0) := (blk_cell BK330.out 1).trans rfl; have hfz52_0 := blk_frozen BK330.out 0; have hfz52_1 := blk_frozen BK330.out 1) | ((with_reducible refine gate_callee (f := 17) rfl ?_); refine goesL_ (some 78) rfl rfl Try.func17 (by kernel_rfl) rfl #[] rfl (by (try simp only [List.map_toArray, List.map_cons, List.map_nil]); first | done | rfl | (simp only [List.length_drop, List.length_take]; rfl)) ?_; (with_reducible refine (mapsheetslaw01_awake.calls kj22  true _ A41.out).mono ?_); rintro e w53 ⟨rfl, hb⟩; refine ⟨_, rfl, ?_⟩; have n0_ := Aside0.mk (blk_below (g := gb319) (o := .cells #[.int .i64 t316, .int .i64 t317] 34 (0, 0)) (by (with_reducible repeat (first | refine blk_drewN ?_ _ | refine blk_drew ?_ | refine blk_alloc ?_ _)); refine blk_far ?_ NB319_330.out _; (with_reducible repeat (first | refine blk_drewN ?_ _ | refine blk_drew ?_ | refine blk_alloc ?_ _)); refine blk_far ?_ NB319_330.out _; (with_reducible repeat (first | refine blk_drewN ?_ _ | refine blk_drew ?_ | refine blk_alloc ?_ _)); exact BK319.out) hb); have n1_ := Aside0.mk (blk_below (g := gb323) (o := .cells #[.int .i64 t320, .int .i64 t321] 34 (0, 0)) (by (with_reducible repeat (first | refine blk_drewN ?_ _ | refine blk_drew ?_ | refine blk_alloc ?_ _)); refine blk_far ?_ NB323_330.out _; (with_reducible repeat (first | refine blk_drewN ?_ _ | refine blk_drew ?_ | refine blk_alloc ?_ _)); refine blk_far ?_ NB323_330.out _; (with_reducible repeat (first | refine blk_drewN ?_ _ | refine blk_drew ?_ | refine blk_alloc ?_ _)); exact BK323.out) hb); have n2_ := Aside0.mk (blk_below (g := gb330) (o := .cells #[.int .i64 t327, .int .i64 t328] 34 (0, 0)) (by (with_reducible repeat (first | refine blk_drewN ?_ _ | refine blk_drew ?_ | refine blk_alloc ?_ _)); refine blk_put (cs := #[.int .i64 t327, .int .i64 0]) ?_ 1 _ rfl; (with_reducible repeat (first | refine blk_drewN ?_ _ | refine blk_drew ?_ | refine blk_alloc ?_ _)); refine blk_put (cs := #[.int .i64 0, .int .i64 0]) ?_ 0 _ rfl; (with_reducible repeat (first | refine blk_drewN ?_ _ | refine blk_drew ?_ | refine blk_alloc ?_ _)); exact BK330.out) hb); have n3_ := Aside0.mk (below_step (by repeat (first | (with_reducible first | exact HB.out | apply below_alloc | apply pw_below_drewN | apply below_drew1 | refine below_set ?_ GE319.out | refine below_set ?_ GE323.out | refine below_set ?_ GE330.out) | exact HB.out)) hb); clear BK319; clear BK323; clear BK330; clear HB; have BK319 := n0_; have BK323 := n1_; have BK330 := n2_; have HB := n3_; clear n0_ n1_ n2_ n3_; (try clear hb); (try clear hb2); (try clear hk); (try clear hi); have hcz54_0 : w53.cell? ⟨gb319, 0, none⟩ = some (.int .i64 t316) := (blk_cell BK319.out 0).trans rfl; have hcz54_1 : w53.cell? ⟨gb319, 1, none⟩ = some (.int .i64 t317) := (blk_cell BK319.out 1).trans rfl; have hfz54_0 := blk_frozen BK319.out 0; have hfz54_1 := blk_frozen BK319.out 1) | (go_at_call 25; (with_reducible refine (mapsheetsref01_Valid.calls kj22 t316 t317 true _ A43.out).mono ?_); rintro e w55 ⟨rfl, hb⟩; have n0_ := Aside0.mk (blk_below (g := gb319) (o := .cells #[.int .i64 t316, .int .i64 t317] 34 (0, 0)) (by (with_reducible repeat (first | refine blk_drewN ?_ _ | refine blk_drew ?_ | refine blk_alloc ?_ _)); exact BK319.out) hb); have n1_ := Aside0.mk (blk_below (g := gb323) (o := .cells #[.int .i64 t320, .int .i64 t321] 34 (0, 0)) (by (with_reducible repeat (first | refine blk_drewN ?_ _ | refine blk_drew ?_ | refine blk_alloc ?_ _)); exact BK323.out) hb); have n2_ := Aside0.mk (blk_below (g := gb330) (o := .cells #[.int .i64 t327, .int .i64 t328] 34 (0, 0)) (by (with_reducible repeat (first | refine blk_drewN ?_ _ | refine blk_drew ?_ | refine blk_alloc ?_ _)); exact BK330.out) hb); have n3_ := Aside0.mk (below_step (by repeat (first | (with_reducible first | exact HB.out | apply below_alloc | apply pw_below_drewN | apply below_drew1 | refine below_set ?_ GE319.out | refine below_set ?_ GE323.out | refine below_set ?_ GE330.out) | exact HB.out)) hb); clear BK319; clear BK323; clear BK330; clear HB; have BK319 := n0_; have BK323 := n1_; have BK330 := n2_; have HB := n3_; clear n0_ n1_ n2_ n3_; (try clear hb); (try clear hb2); (try clear hk); (try clear hi); have hcz56_0 : w55.cell? ⟨gb330, 0, none⟩ = some (.int .i64 t327) := (blk_cell BK330.out 0).trans rfl; have hcz56_1 : w55.cell? ⟨gb330, 1, none⟩ = some (.int .i64 t328) := (blk_cell BK330.out 1).trans rfl; have hfz56_0 := blk_frozen BK330.out 0; have hfz56_1 := blk_frozen BK330.out 1; have hcz57_0 : w55.cell? ⟨gb319, 0, none⟩ = some (.int .i64 t316) := (blk_cell BK319.out 0).trans rfl; have hcz57_1 : w55.cell? ⟨gb319, 1, none⟩ = some (.int .i64 t317) := (blk_cell BK319.out 1).trans rfl; have hfz57_0 := blk_frozen BK319.out 0; have hfz57_1 := blk_frozen BK319.out 1))
           go_ret
           exact ⟨by first | rfl | (simp [errW_none, errW_some] <;> rfl) | (simp [*, errW_none, errW_some] <;> rfl), by repeat (first | (with_reducible first | exact HB.out | apply below_alloc | apply pw_below_drewN | apply below_drew1 | refine below_set ?_ GE319.out | refine below_set ?_ GE323.out | refine below_set ?_ GE330.out) | exact HB.out)⟩
          ·rw [if_neg c45] at H
           exact absurd H (by simp)
         ·replace c44 := Bool.eq_false_iff.mpr c44
          subst c44
          have H1 : (none) = some r := by rw [if_neg (show ¬ (false = true) by decide)] at H; exact H
          clear H
          have H := H1
          clear H1
          exact absurd H (by simp)
        ·replace c42 := Bool.eq_false_iff.mpr c42
         subst c42
         have H1 : (none) = some r := by rw [if_neg (show ¬ (false = true) by decide)] at H; exact H
         clear H
         have H := H1
         clear H1
         exact absurd H (by simp)
    ·rw [if_neg c22] at H
     have c22b0 : (t322 == 0) = false := beq_eq_false_iff_ne.mpr c22
     have c22b1 : (t322 != 0) = true := bne_iff_ne.mpr c22
     replace H := Option.bind_eq_some_iff.mp H
     obtain ⟨t324, A580, H⟩ := H
     replace H : (if t324 = true then (some (t316 == 0 && (t317 == 0))) else (none)) = some r := H
     have A58 := Aside0.mk A580
     clear A580
     by_cases c59 : t324 = true
     ·subst c59
      have H1 : (some (t316 == 0 && (t317 == 0))) = some r := by rw [if_pos rfl] at H; exact H
      clear H
      have H := H1
      clear H1
      obtain rfl := Option.some.inj H
      go_wp2_with (first | ((with_reducible refine gate_callee (f := 17) rfl ?_); refine goesL_ (some 36) rfl rfl Try.func17 (by kernel_rfl) rfl #[] rfl (by (try simp only [List.map_toArray, List.map_cons, List.map_nil]); first | done | rfl | (simp only [List.length_drop, List.length_take]; rfl)) ?_; (with_reducible refine (mapsheetslaw01_awake.calls kj5  true _ A58.out).mono ?_); rintro e w60 ⟨rfl, hb⟩; refine ⟨_, rfl, ?_⟩; have n0_ := Aside0.mk (blk_below (g := gb319) (o := .cells #[.int .i64 t316, .int .i64 t317] 34 (0, 0)) (by (with_reducible repeat (first | refine blk_drewN ?_ _ | refine blk_drew ?_ | refine blk_alloc ?_ _)); exact BK319.out) hb); have n1_ := Aside0.mk (blk_below (g := gb323) (o := .cells #[.int .i64 t320, .int .i64 t321] 34 (0, 0)) (by (with_reducible repeat (first | refine blk_drewN ?_ _ | refine blk_drew ?_ | refine blk_alloc ?_ _)); exact BK323.out) hb); have n2_ := Aside0.mk (below_step (by repeat (first | (with_reducible first | exact HB.out | apply below_alloc | apply pw_below_drewN | apply below_drew1 | refine below_set ?_ GE319.out | refine below_set ?_ GE323.out) | exact HB.out)) hb); clear BK319; clear BK323; clear HB; have BK319 := n0_; have BK323 := n1_; have HB := n2_; clear n0_ n1_ n2_; (try clear hb); (try clear hb2); (try clear hk); (try clear hi); have hnb61 := NB319_323.out; have hnc61 := NB323_319.out; have hcz62_0 : w60.cell? ⟨gb319, 0, none⟩ = some (.int .i64 t316) := (blk_cell BK319.out 0).trans rfl; have hcz62_1 : w60.cell? ⟨gb319, 1, none⟩ = some (.int .i64 t317) := (blk_cell BK319.out 1).trans rfl; have hfz62_0 := blk_frozen BK319.out 0; have hfz62_1 := blk_frozen BK319.out 1))
      go_ret
      exact ⟨by first | rfl | (simp [errW_none, errW_some] <;> rfl) | (simp [*, errW_none, errW_some] <;> rfl), by repeat (first | (with_reducible first | exact HB.out | apply below_alloc | apply pw_below_drewN | apply below_drew1 | refine below_set ?_ GE319.out | refine below_set ?_ GE323.out) | exact HB.out)⟩
     ·replace c59 := Bool.eq_false_iff.mpr c59
      subst c59
      have H1 : (none) = some r := by rw [if_neg (show ¬ (false = true) by decide)] at H; exact H
      clear H
      have H := H1
      clear H1
      exact absurd H (by simp)

/-- THE ONE PURE STATEMENT of mapsheetslaw01_NumFractions: yours. -/
def mapsheetslaw01_NumFractions.Pure : Prop := ∀ (a0 : Int) (a1 : Int) (a2 : Int), (Lit.int .i64 a0).wf = true → (Lit.int .i64 a1).wf = true → (Lit.int .u16 a2).wf = true → ∃ k, mapsheetslaw01_NumFractions.f k a0 a1 a2 = some true

end Go.Proofs.Ytngiipodkbfokaa.PAll
