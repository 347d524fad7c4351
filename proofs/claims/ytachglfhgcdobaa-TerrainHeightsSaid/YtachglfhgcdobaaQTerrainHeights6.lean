/- The row of the law TerrainHeights: for every input that can be read the call returns true, and each argument reads as it did. No condition. -/
import Derived.SizedLaws
import Derived.DataElems
import Derived.Deep.Slices
import Derived.OpenShut
import Derived.Test.YtachglfhgcdobaaRows
import Derived.WalkKit
import Derived.ProofKit
import Derived.ShutString
import Derived.ChangeOld
import Derived.Below
import Derived.Test.YtachglfhgcdobaaQTerrainHeights5
section
namespace Go.Proofs.Ytachglfhgcdobaa.PAll
open Go.RowKit Go.Proofs.YtachglfhgcdobaaW.PrintWords Go.Proofs.YtachglfhgcdobaaW.PrintLast Go.Proofs.YtachglfhgcdobaaW.PrintMore
attribute [local go_sem] max2_int min2_int max_two min_two max_three min_three max_four min_four
set_option linter.unusedVariables false
set_option linter.unusedSimpArgs false
attribute [local go_sem high] eqA37
def mapsheetslaw43_TerrainHeights.f (k : Nat) (a0_0 : Int) (a0_1 : Int) (a0_2 : Int) (a0_3 : Int) (a0_4 : Int) (l0_5 : List Int) (a1_0 : Int) (a1_1 : Int) : Option (Bool) := (mapsheetslaw43_light.f a0_0 a0_1 a0_2 a0_3 a0_4 l0_5).bind fun t311 => (if t311 = true then ((terrain_Height.f k a0_0 a0_1 a0_2 a0_3 a0_4 l0_5 a1_0 a1_1).bind fun bt312 => ((mapsheetsref43_Height.f k a0_0 a0_1 a0_2 a0_3 a0_4 l0_5 a1_0 a1_1).bind fun bt316 => ((mapsheetslaw43_awake.f k).bind fun t320 => (if t320 = true then (if (bt312.1 == bt316.1 && (bt312.2.1 == bt316.2.1)) = true then (some (bt312.2.2 == bt316.2.2)) else (none)) else (none))))) else ((mapsheetslaw43_awake.f k).bind fun t321 => (some t321)))
theorem mapsheetslaw43_TerrainHeights.mono : ∀ a0 a1 a2 a3 a4 a5 a6 a7 k, LeO (mapsheetslaw43_TerrainHeights.f k a0 a1 a2 a3 a4 a5 a6 a7) (mapsheetslaw43_TerrainHeights.f (k + 1) a0 a1 a2 a3 a4 a5 a6 a7) := by
  intro a0 a1 a2 a3 a4 a5 a6 a7 k
  unfold mapsheetslaw43_TerrainHeights.f
  repeat' first
      | (with_reducible exact mapsheetslaw43_awake.mono _)
      | (with_reducible exact mapsheetsref43_Height.mono _ _ _ _ _ _ _ _ _)
      | (with_reducible exact terrain_Height.mono _ _ _ _ _ _ _ _ _)
      | (with_reducible exact LeO.refl _)
      | (with_reducible exact LeO.none _)
      | (with_reducible refine LeO.ite ?_ ?_)
      | (with_reducible refine LeO.bind ?_ (fun _ => ?_))
      | exact mapsheetslaw43_awake.mono _
      | exact mapsheetsref43_Height.mono _ _ _ _ _ _ _ _ _
      | exact terrain_Height.mono _ _ _ _ _ _ _ _ _
      | exact LeO.none _
      | refine LeO.ite ?_ ?_
      | refine LeO.bind ?_ (fun _ => ?_)
set_option maxHeartbeats 8000000 in
set_option maxRecDepth 100000 in
theorem mapsheetslaw43_TerrainHeights.calls (k : Nat) (a0_0 : Int) (a0_1 : Int) (a0_2 : Int) (a0_3 : Int) (a0_4 : Int) (A0_5 : Option Addr) (c0_5 : Nat) (l0_5 : List Int) (a1_0 : Int) (a1_1 : Int) (r : Bool) (w : World) (hr0_5 : Kd.C (Kd.int .i64) w A0_5 l0_5.length l0_5) (hc0_5 : l0_5.length ≤ c0_5) (h : mapsheetslaw43_TerrainHeights.f k a0_0 a0_1 a0_2 a0_3 a0_4 l0_5 a1_0 a1_1 = some r) :
    Calls Try.prog 4 #[.agg #[.int .i64 a0_0, .int .i64 a0_1, .int .i64 a0_2, .int .i64 a0_3, .int .i64 a0_4, .slice A0_5 l0_5.length c0_5], .agg #[.int .i64 a1_0, .int .i64 a1_1]] w fun e w' => e = .returned (.bool r) ∧ Below w.heap.size w w' := by
 have hu26 := Try.underlying26
 have hu23 := Try.underlying23
 have hu37 := Try.underlying37
 have HR0_5 := Aside0.mk hr0_5
 have HC0_5 := Aside0.mk hc0_5
 clear hr0_5 hc0_5
 have HB := Aside0.mk (Below.refl w.heap.size w)
 have H : ((mapsheetslaw43_light.f a0_0 a0_1 a0_2 a0_3 a0_4 l0_5).bind fun t311 => (if t311 = true then ((terrain_Height.f k a0_0 a0_1 a0_2 a0_3 a0_4 l0_5 a1_0 a1_1).bind fun bt312 => ((mapsheetsref43_Height.f k a0_0 a0_1 a0_2 a0_3 a0_4 l0_5 a1_0 a1_1).bind fun bt316 => ((mapsheetslaw43_awake.f k).bind fun t320 => (if t320 = true then (if (bt312.1 == bt316.1 && (bt312.2.1 == bt316.2.1)) = true then (some (bt312.2.2 == bt316.2.2)) else (none)) else (none))))) else ((mapsheetslaw43_awake.f k).bind fun t321 => (some t321)))) = some r := h
 clear h
 replace H := Option.bind_eq_some_iff.mp H
 obtain ⟨t311, A30, H⟩ := H
 replace H : (if t311 = true then ((terrain_Height.f k a0_0 a0_1 a0_2 a0_3 a0_4 l0_5 a1_0 a1_1).bind fun bt312 => ((mapsheetsref43_Height.f k a0_0 a0_1 a0_2 a0_3 a0_4 l0_5 a1_0 a1_1).bind fun bt316 => ((mapsheetslaw43_awake.f k).bind fun t320 => (if t320 = true then (if (bt312.1 == bt316.1 && (bt312.2.1 == bt316.2.1)) = true then (some (bt312.2.2 == bt316.2.2)) else (none)) else (none))))) else ((mapsheetslaw43_awake.f k).bind fun t321 => (some t321))) = some r := H
 have A3 := Aside0.mk A30
 clear A30
 by_cases c4 : t311 = true
 ·subst c4
  have H1 : ((terrain_Height.f k a0_0 a0_1 a0_2 a0_3 a0_4 l0_5 a1_0 a1_1).bind fun bt312 => ((mapsheetsref43_Height.f k a0_0 a0_1 a0_2 a0_3 a0_4 l0_5 a1_0 a1_1).bind fun bt316 => ((mapsheetslaw43_awake.f k).bind fun t320 => (if t320 = true then (if (bt312.1 == bt316.1 && (bt312.2.1 == bt316.2.1)) = true then (some (bt312.2.2 == bt316.2.2)) else (none)) else (none))))) = some r := by rw [if_pos rfl] at H; exact H
  clear H
  have H := H1
  clear H1
  replace H := Option.bind_eq_some_iff.mp H
  obtain ⟨⟨t312, t313, t314⟩, A50, H⟩ := H
  replace H : ((mapsheetsref43_Height.f k a0_0 a0_1 a0_2 a0_3 a0_4 l0_5 a1_0 a1_1).bind fun bt316 => ((mapsheetslaw43_awake.f k).bind fun t320 => (if t320 = true then (if (t312 == bt316.1 && (t313 == bt316.2.1)) = true then (some (t314 == bt316.2.2)) else (none)) else (none)))) = some r := H
  have A5 := Aside0.mk A50
  clear A50
  replace H := Option.bind_eq_some_iff.mp H
  obtain ⟨⟨t316, t317, t318⟩, A60, H⟩ := H
  replace H : ((mapsheetslaw43_awake.f k).bind fun t320 => (if t320 = true then (if (t312 == t316 && (t313 == t317)) = true then (some (t314 == t318)) else (none)) else (none))) = some r := H
  have A6 := Aside0.mk A60
  clear A60
  replace H := Option.bind_eq_some_iff.mp H
  obtain ⟨t320, A70, H⟩ := H
  replace H : (if t320 = true then (if (t312 == t316 && (t313 == t317)) = true then (some (t314 == t318)) else (none)) else (none)) = some r := H
  have A7 := Aside0.mk A70
  clear A70
  by_cases c8 : t320 = true
  ·subst c8
   have H1 : (if (t312 == t316 && (t313 == t317)) = true then (some (t314 == t318)) else (none)) = some r := by rw [if_pos rfl] at H; exact H
   clear H
   have H := H1
   clear H1
   by_cases c9 : (t312 == t316 && (t313 == t317)) = true
   ·rw [if_pos c9] at H
    have c9b0 : (t312 == t316 && (t313 == t317)) = true := c9
    (try (have c9b1 : decide (t312 = t316 && (t313 == t317)) = true := by simpa using c9))
    (try (have c9b2 : (t312 == t316 && (t313 == t317)) = true := by simpa using c9))
    clear c9
    obtain rfl := Option.some.inj H
    go_enter Try.func4, Try.ntmps4
    go_wp2_with (first | ((with_reducible refine gate_dst (N := 2) rfl ?_); refine box_event ?hg (N := 2) ?hd (cs := #[.int .i64 a0_0, .int .i64 a0_1, .int .i64 a0_2, .int .i64 a0_3, .int .i64 a0_4, .slice A0_5 l0_5.length c0_5]) (t := 26) ?hr ?_; (case hd => rfl); (case hg => rfl); (case hr => first | (go_simp; done) | (go_simp; rfl)); intro gb309 hg w10 hbox hb; have n0_ := Aside0.mk (below_step (by repeat (first | (with_reducible first | exact HB.out | apply below_alloc | apply pw_below_drewN | apply below_drew1) | exact HB.out)) hb); have n1_ := Aside0.mk (hbox); have n2_ := Aside0.mk ((by rw [hg]; exact (below_size (by repeat (first | (with_reducible first | exact HB.out | apply below_alloc | apply pw_below_drewN | apply below_drew1) | exact HB.out))) : w.heap.size ≤ gb309)); have n3_ := Aside0.mk ((by rw [hg]; exact (below_size (by repeat (first | (with_reducible first | exact HB.out | apply below_alloc | apply pw_below_drewN | apply below_drew1) | exact HB.out))) : w.heap.size ≤ gb309)); clear HB; have HB := n0_; have BK309 := n1_; have GW309 := n2_; have GE309 := n3_; clear n0_ n1_ n2_ n3_; clear hb hbox hg) | ((with_reducible refine gate_dst (N := 3) rfl ?_); refine box_event ?hg (N := 3) ?hd (cs := #[.int .i64 a1_0, .int .i64 a1_1]) (t := 23) ?hr ?_; (case hd => rfl); (case hg => rfl); (case hr => first | (go_simp; done) | (go_simp; rfl)); intro gb310 hg w11 hbox hb; have n0_ := Aside0.mk (blk_below (g := gb309) (o := .cells #[.int .i64 a0_0, .int .i64 a0_1, .int .i64 a0_2, .int .i64 a0_3, .int .i64 a0_4, .slice A0_5 l0_5.length c0_5] 26 (0, 0)) (by (with_reducible repeat (first | refine blk_drewN ?_ _ | refine blk_drew ?_ | refine blk_alloc ?_ _)); exact BK309.out) hb); have n1_ := Aside0.mk (below_step (by repeat (first | (with_reducible first | exact HB.out | apply below_alloc | apply pw_below_drewN | apply below_drew1 | refine below_set ?_ GE309.out) | exact HB.out)) hb); have n2_ := Aside0.mk (hbox); have n3_ := Aside0.mk ((by rw [hg]; exact (below_size (by repeat (first | (with_reducible first | exact HB.out | apply below_alloc | apply pw_below_drewN | apply below_drew1 | refine below_set ?_ GE309.out) | exact HB.out))) : w.heap.size ≤ gb310)); have n4_ := Aside0.mk ((by rw [hg]; exact (below_size (by repeat (first | (with_reducible first | exact HB.out | apply below_alloc | apply pw_below_drewN | apply below_drew1 | refine below_set ?_ GE309.out) | exact HB.out))) : w.heap.size ≤ gb310)); have n5_ := Aside0.mk ((by rw [hg]; exact Nat.ne_of_lt (blk_lt (g := gb309) (o := .cells #[.int .i64 a0_0, .int .i64 a0_1, .int .i64 a0_2, .int .i64 a0_3, .int .i64 a0_4, .slice A0_5 l0_5.length c0_5] 26 (0, 0)) (by (with_reducible repeat (first | refine blk_drewN ?_ _ | refine blk_drew ?_ | refine blk_alloc ?_ _)); exact BK309.out)) : gb309 ≠ gb310)); have n6_ := Aside0.mk ((by rw [hg]; exact Nat.ne_of_gt (blk_lt (g := gb309) (o := .cells #[.int .i64 a0_0, .int .i64 a0_1, .int .i64 a0_2, .int .i64 a0_3, .int .i64 a0_4, .slice A0_5 l0_5.length c0_5] 26 (0, 0)) (by (with_reducible repeat (first | refine blk_drewN ?_ _ | refine blk_drew ?_ | refine blk_alloc ?_ _)); exact BK309.out)) : gb310 ≠ gb309)); clear BK309; clear HB; have BK309 := n0_; have HB := n1_; have BK310 := n2_; have GW310 := n3_; have GE310 := n4_; have NB309_310 := n5_; have NB310_309 := n6_; clear n0_ n1_ n2_ n3_ n4_ n5_ n6_; clear hb hbox hg; have hnb12 := NB309_310.out; have hnc12 := NB310_309.out; have hcz13_0 : w11.cell? ⟨gb309, 0, none⟩ = some (.int .i64 a0_0) := (blk_cell BK309.out 0).trans rfl; have hcz13_1 : w11.cell? ⟨gb309, 1, none⟩ = some (.int .i64 a0_1) := (blk_cell BK309.out 1).trans rfl; have hcz13_2 : w11.cell? ⟨gb309, 2, none⟩ = some (.int .i64 a0_2) := (blk_cell BK309.out 2).trans rfl; have hcz13_3 : w11.cell? ⟨gb309, 3, none⟩ = some (.int .i64 a0_3) := (blk_cell BK309.out 3).trans rfl; have hcz13_4 : w11.cell? ⟨gb309, 4, none⟩ = some (.int .i64 a0_4) := (blk_cell BK309.out 4).trans rfl; have hcz13_5 : w11.cell? ⟨gb309, 5, none⟩ = some (.slice A0_5 l0_5.length c0_5) := (blk_cell BK309.out 5).trans rfl; have hfz13_0 := blk_frozen BK309.out 0; have hfz13_1 := blk_frozen BK309.out 1; have hfz13_2 := blk_frozen BK309.out 2; have hfz13_3 := blk_frozen BK309.out 3; have hfz13_4 := blk_frozen BK309.out 4; have hfz13_5 := blk_frozen BK309.out 5) | ((with_reducible refine gate_callee (f := 9) rfl ?_); refine goesL_ (some 10) rfl rfl Try.func9 (by kernel_rfl) rfl #[.agg #[.int .i64 a0_0, .int .i64 a0_1, .int .i64 a0_2, .int .i64 a0_3, .int .i64 a0_4, .slice A0_5 l0_5.length c0_5]] rfl (by (try simp only [List.map_toArray, List.map_cons, List.map_nil]); first | done | rfl | (simp only [List.length_drop, List.length_take]; rfl)) ?_; (with_reducible refine (mapsheetslaw43_light.calls a0_0 a0_1 a0_2 a0_3 a0_4 _ _ l0_5 true _ ?side1 ?side2 A3.out).mono ?_); (case side1 => repeat (first | exact (Kd.C_below HR0_5.out HB.out) | (with_reducible refine Kd.C_alloc ?_ _) | (with_reducible refine Kd.C_drewN ?_ _) | (with_reducible refine Kd.C_drew ?_))); (case side2 => exact HC0_5.out); rintro e w14 ⟨rfl, hb⟩; refine ⟨_, rfl, ?_⟩; have n0_ := Aside0.mk (blk_below (g := gb309) (o := .cells #[.int .i64 a0_0, .int .i64 a0_1, .int .i64 a0_2, .int .i64 a0_3, .int .i64 a0_4, .slice A0_5 l0_5.length c0_5] 26 (0, 0)) (by (with_reducible repeat (first | refine blk_drewN ?_ _ | refine blk_drew ?_ | refine blk_alloc ?_ _)); exact BK309.out) hb); have n1_ := Aside0.mk (blk_below (g := gb310) (o := .cells #[.int .i64 a1_0, .int .i64 a1_1] 23 (0, 0)) (by (with_reducible repeat (first | refine blk_drewN ?_ _ | refine blk_drew ?_ | refine blk_alloc ?_ _)); exact BK310.out) hb); have n2_ := Aside0.mk (below_step (by repeat (first | (with_reducible first | exact HB.out | apply below_alloc | apply pw_below_drewN | apply below_drew1 | refine below_set ?_ GE309.out | refine below_set ?_ GE310.out) | exact HB.out)) hb); clear BK309; clear BK310; clear HB; have BK309 := n0_; have BK310 := n1_; have HB := n2_; clear n0_ n1_ n2_; (try clear hb); (try clear hb2); (try clear hk); (try clear hi); have hcz15_0 : w14.cell? ⟨gb309, 0, none⟩ = some (.int .i64 a0_0) := (blk_cell BK309.out 0).trans rfl; have hcz15_1 : w14.cell? ⟨gb309, 1, none⟩ = some (.int .i64 a0_1) := (blk_cell BK309.out 1).trans rfl; have hcz15_2 : w14.cell? ⟨gb309, 2, none⟩ = some (.int .i64 a0_2) := (blk_cell BK309.out 2).trans rfl; have hcz15_3 : w14.cell? ⟨gb309, 3, none⟩ = some (.int .i64 a0_3) := (blk_cell BK309.out 3).trans rfl; have hcz15_4 : w14.cell? ⟨gb309, 4, none⟩ = some (.int .i64 a0_4) := (blk_cell BK309.out 4).trans rfl; have hcz15_5 : w14.cell? ⟨gb309, 5, none⟩ = some (.slice A0_5 l0_5.length c0_5) := (blk_cell BK309.out 5).trans rfl; have hfz15_0 := blk_frozen BK309.out 0; have hfz15_1 := blk_frozen BK309.out 1; have hfz15_2 := blk_frozen BK309.out 2; have hfz15_3 := blk_frozen BK309.out 3; have hfz15_4 := blk_frozen BK309.out 4; have hfz15_5 := blk_frozen BK309.out 5; have hcz16_0 : w14.cell? ⟨gb310, 0, none⟩ = some (.int .i64 a1_0) := (blk_cell BK310.out 0).trans rfl; have hcz16_1 : w14.cell? ⟨gb310, 1, none⟩ = some (.int .i64 a1_1) := (blk_cell BK310.out 1).trans rfl; have hfz16_0 := blk_frozen BK310.out 0; have hfz16_1 := blk_frozen BK310.out 1) | ((with_reducible refine gate_callee (f := 17) rfl ?_); refine goesL_ (some 16) rfl rfl Try.func17 (by kernel_rfl) rfl #[.agg #[.int .i64 a0_0, .int .i64 a0_1, .int .i64 a0_2, .int .i64 a0_3, .int .i64 a0_4, .slice A0_5 l0_5.length c0_5], .agg #[.int .i64 a1_0, .int .i64 a1_1]] rfl (by (try simp only [List.map_toArray, List.map_cons, List.map_nil]); first | done | rfl | (simp only [List.length_drop, List.length_take]; rfl)) ?_; (with_reducible refine (terrain_Height.calls k a0_0 a0_1 a0_2 a0_3 a0_4 _ _ l0_5 a1_0 a1_1 t312 t313 t314 _ ?side1 ?side2 A5.out).mono ?_); (case side1 => repeat (first | exact (Kd.C_below HR0_5.out HB.out) | (with_reducible refine Kd.C_alloc ?_ _) | (with_reducible refine Kd.C_drewN ?_ _) | (with_reducible refine Kd.C_drew ?_))); (case side2 => exact HC0_5.out); rintro e w17 ⟨rfl, hb⟩; refine ⟨_, rfl, ?_⟩; have n0_ := Aside0.mk (blk_below (g := gb309) (o := .cells #[.int .i64 a0_0, .int .i64 a0_1, .int .i64 a0_2, .int .i64 a0_3, .int .i64 a0_4, .slice A0_5 l0_5.length c0_5] 26 (0, 0)) (by (with_reducible repeat (first | refine blk_drewN ?_ _ | refine blk_drew ?_ | refine blk_alloc ?_ _)); exact BK309.out) hb); have n1_ := Aside0.mk (blk_below (g := gb310) (o := .cells #[.int .i64 a1_0, .int .i64 a1_1] 23 (0, 0)) (by (with_reducible repeat (first | refine blk_drewN ?_ _ | refine blk_drew ?_ | refine blk_alloc ?_ _)); exact BK310.out) hb); have n2_ := Aside0.mk (below_step (by repeat (first | (with_reducible first | exact HB.out | apply below_alloc | apply pw_below_drewN | apply below_drew1 | refine below_set ?_ GE309.out | refine below_set ?_ GE310.out) | exact HB.out)) hb); clear BK309; clear BK310; clear HB; have BK309 := n0_; have BK310 := n1_; have HB := n2_; clear n0_ n1_ n2_; (try clear hb); (try clear hb2); (try clear hk); (try clear hi)) | ((with_reducible refine gate_dst (N := 5) rfl ?_); refine box_event ?hg (N := 5) ?hd (cs := #[.int .i64 0, .int .i64 0]) (t := 37) ?hr ?_; (case hd => rfl); (case hg => rfl); (case hr => first | (go_simp; done) | (go_simp; rfl)); intro gb315 hg w18 hbox hb; have n0_ := Aside0.mk (blk_below (g := gb309) (o := .cells #[.int .i64 a0_0, .int .i64 a0_1, .int .i64 a0_2, .int .i64 a0_3, .int .i64 a0_4, .slice A0_5 l0_5.length c0_5] 26 (0, 0)) (by (with_reducible repeat (first | refine blk_drewN ?_ _ | refine blk_drew ?_ | refine blk_alloc ?_ _)); exact BK309.out) hb); have n1_ := Aside0.mk (blk_below (g := gb310) (o := .cells #[.int .i64 a1_0, .int .i64 a1_1] 23 (0, 0)) (by (with_reducible repeat (first | refine blk_drewN ?_ _ | refine blk_drew ?_ | refine blk_alloc ?_ _)); exact BK310.out) hb); have n2_ := Aside0.mk (below_step (by repeat (first | (with_reducible first | exact HB.out | apply below_alloc | apply pw_below_drewN | apply below_drew1 | refine below_set ?_ GE309.out | refine below_set ?_ GE310.out) | exact HB.out)) hb); have n3_ := Aside0.mk (hbox); have n4_ := Aside0.mk ((by rw [hg]; exact (below_size (by repeat (first | (with_reducible first | exact HB.out | apply below_alloc | apply pw_below_drewN | apply below_drew1 | refine below_set ?_ GE309.out | refine below_set ?_ GE310.out) | exact HB.out))) : w.heap.size ≤ gb315)); have n5_ := Aside0.mk ((by rw [hg]; exact (below_size (by repeat (first | (with_reducible first | exact HB.out | apply below_alloc | apply pw_below_drewN | apply below_drew1 | refine below_set ?_ GE309.out | refine below_set ?_ GE310.out) | exact HB.out))) : w.heap.size ≤ gb315)); have n6_ := Aside0.mk ((by rw [hg]; exact Nat.ne_of_lt (blk_lt (g := gb309) (o := .cells #[.int .i64 a0_0, .int .i64 a0_1, .int .i64 a0_2, .int .i64 a0_3, .int .i64 a0_4, .slice A0_5 l0_5.length c0_5] 26 (0, 0)) (by (with_reducible repeat (first | refine blk_drewN ?_ _ | refine blk_drew ?_ | refine blk_alloc ?_ _)); exact BK309.out)) : gb309 ≠ gb315)); have n7_ := Aside0.mk ((by rw [hg]; exact Nat.ne_of_gt (blk_lt (g := gb309) (o := .cells #[.int .i64 a0_0, .int .i64 a0_1, .int .i64 a0_2, .int .i64 a0_3, .int .i64 a0_4, .slice A0_5 l0_5.length c0_5] 26 (0, 0)) (by (with_reducible repeat (first | refine blk_drewN ?_ _ | refine blk_drew ?_ | refine blk_alloc ?_ _)); exact BK309.out)) : gb315 ≠ gb309)); have n8_ := Aside0.mk ((by rw [hg]; exact Nat.ne_of_lt (blk_lt (g := gb310) (o := .cells #[.int .i64 a1_0, .int .i64 a1_1] 23 (0, 0)) (by (with_reducible repeat (first | refine blk_drewN ?_ _ | refine blk_drew ?_ | refine blk_alloc ?_ _)); exact BK310.out)) : gb310 ≠ gb315)); have n9_ := Aside0.mk ((by rw [hg]; exact Nat.ne_of_gt (blk_lt (g := gb310) (o := .cells #[.int .i64 a1_0, .int .i64 a1_1] 23 (0, 0)) (by (with_reducible repeat (first | refine blk_drewN ?_ _ | refine blk_drew ?_ | refine blk_alloc ?_ _)); exact BK310.out)) : gb315 ≠ gb310)); clear BK309; clear BK310; clear HB; have BK309 := n0_; have BK310 := n1_; have HB := n2_; have BK315 := n3_; have GW315 := n4_; have GE315 := n5_; have NB309_315 := n6_; have NB315_309 := n7_; have NB310_315 := n8_; have NB315_310 := n9_; clear n0_ n1_ n2_ n3_ n4_ n5_ n6_ n7_ n8_ n9_; clear hb hbox hg; have hnb19 := NB315_309.out; have hnc19 := NB309_315.out; have hnb20 := NB315_310.out; have hnc20 := NB310_315.out; have hcz21_0 : w18.cell? ⟨gb315, 0, none⟩ = some (.int .i64 0) := (blk_cell BK315.out 0).trans rfl; have hcz21_1 : w18.cell? ⟨gb315, 1, none⟩ = some (.int .i64 0) := (blk_cell BK315.out 1).trans rfl; have hfz21_0 := blk_frozen BK315.out 0; have hfz21_1 := blk_frozen BK315.out 1; have hcz22_0 : w18.cell? ⟨gb309, 0, none⟩ = some (.int .i64 a0_0) := (blk_cell BK309.out 0).trans rfl; have hcz22_1 : w18.cell? ⟨gb309, 1, none⟩ = some (.int .i64 a0_1) := (blk_cell BK309.out 1).trans rfl; have hcz22_2 : w18.cell? ⟨gb309, 2, none⟩ = some (.int .i64 a0_2) := (blk_cell BK309.out 2).trans rfl; have hcz22_3 : w18.cell? ⟨gb309, 3, none⟩ = some (.int .i64 a0_3) := (blk_cell BK309.out 3).trans rfl; have hcz22_4 : w18.cell? ⟨gb309, 4, none⟩ = some (.int .i64 a0_4) := (blk_cell BK309.out 4).trans rfl; have hcz22_5 : w18.cell? ⟨gb309, 5, none⟩ = some (.slice A0_5 l0_5.length c0_5) := (blk_cell BK309.out 5).trans rfl; have hfz22_0 := blk_frozen BK309.out 0; have hfz22_1 := blk_frozen BK309.out 1; have hfz22_2 := blk_frozen BK309.out 2; have hfz22_3 := blk_frozen BK309.out 3; have hfz22_4 := blk_frozen BK309.out 4; have hfz22_5 := blk_frozen BK309.out 5; have hcz23_0 : w18.cell? ⟨gb310, 0, none⟩ = some (.int .i64 a1_0) := (blk_cell BK310.out 0).trans rfl; have hcz23_1 : w18.cell? ⟨gb310, 1, none⟩ = some (.int .i64 a1_1) := (blk_cell BK310.out 1).trans rfl; have hfz23_0 := blk_frozen BK310.out 0; have hfz23_1 := blk_frozen BK310.out 1) | ((with_reducible refine gate_callee (f := 18) rfl ?_); refine goesL_ (some 22) rfl rfl Try.func18 (by kernel_rfl) rfl #[.agg #[.int .i64 a0_0, .int .i64 a0_1, .int .i64 a0_2, .int .i64 a0_3, .int .i64 a0_4, .slice A0_5 l0_5.length c0_5], .agg #[.int .i64 a1_0, .int .i64 a1_1]] rfl (by (try simp only [List.map_toArray, List.map_cons, List.map_nil]); first | done | rfl | (simp only [List.length_drop, List.length_take]; rfl)) ?_; (with_reducible refine (mapsheetsref43_Height.calls k a0_0 a0_1 a0_2 a0_3 a0_4 _ _ l0_5 a1_0 a1_1 t316 t317 t318 _ ?side1 ?side2 A6.out).mono ?_); (case side1 => exact Kd.C_below HR0_5.out (by repeat (first | (with_reducible first | exact HB.out | apply below_alloc | apply pw_below_drewN | apply below_drew1 | refine below_set ?_ GE309.out | refine below_set ?_ GE310.out | refine below_set ?_ GE315.out) | exact HB.out))); (case side2 => exact HC0_5.out); rintro e w24 ⟨rfl, hb⟩; refine ⟨_, rfl, ?_⟩; have n0_ := Aside0.mk (blk_below (g := gb309) (o := .cells #[.int .i64 a0_0, .int .i64 a0_1, .int .i64 a0_2, .int .i64 a0_3, .int .i64 a0_4, .slice A0_5 l0_5.length c0_5] 26 (0, 0)) (by (with_reducible repeat (first | refine blk_drewN ?_ _ | refine blk_drew ?_ | refine blk_alloc ?_ _)); refine blk_far ?_ NB309_315.out _; (with_reducible repeat (first | refine blk_drewN ?_ _ | refine blk_drew ?_ | refine blk_alloc ?_ _)); refine blk_far ?_ NB309_315.out _; (with_reducible repeat (first | refine blk_drewN ?_ _ | refine blk_drew ?_ | refine blk_alloc ?_ _)); exact BK309.out) hb); have n1_ := Aside0.mk (blk_below (g := gb310) (o := .cells #[.int .i64 a1_0, .int .i64 a1_1] 23 (0, 0)) (by (with_reducible repeat (first | refine blk_drewN ?_ _ | refine blk_drew ?_ | refine blk_alloc ?_ _)); refine blk_far ?_ NB310_315.out _; (with_reducible repeat (first | refine blk_drewN ?_ _ | refine blk_drew ?_ | refine blk_alloc ?_ _)); refine blk_far ?_ NB310_315.out _; (with_reducible repeat (first | refine blk_drewN ?_ _ | refine blk_drew ?_ | refine blk_alloc ?_ _)); exact BK310.out) hb); have n2_ := Aside0.mk (blk_below (g := gb315) (o := .cells #[.int .i64 t312, .int .i64 t313] 37 (0, 0)) (by (with_reducible repeat (first | refine blk_drewN ?_ _ | refine blk_drew ?_ | refine blk_alloc ?_ _)); refine blk_put (cs := #[.int .i64 t312, .int .i64 0]) ?_ 1 _ rfl; (with_reducible repeat (first | refine blk_drewN ?_ _ | refine blk_drew ?_ | refine blk_alloc ?_ _)); refine blk_put (cs := #[.int .i64 0, .int .i64 0]) ?_ 0 _ rfl; (with_reducible repeat (first | refine blk_drewN ?_ _ | refine blk_drew ?_ | refine blk_alloc ?_ _)); exact BK315.out) hb); have n3_ := Aside0.mk (below_step (by repeat (first | (with_reducible first | exact HB.out | apply below_alloc | apply pw_below_drewN | apply below_drew1 | refine below_set ?_ GE309.out | refine below_set ?_ GE310.out | refine below_set ?_ GE315.out) | exact HB.out)) hb); clear BK309; clear BK310; clear BK315; clear HB; have BK309 := n0_; have BK310 := n1_; have BK315 := n2_; have HB := n3_; clear n0_ n1_ n2_ n3_; (try clear hb); (try clear hb2); (try clear hk); (try clear hi)) | ((with_reducible refine gate_dst (N := 7) rfl ?_); refine box_event ?hg (N := 7) ?hd (cs := #[.int .i64 0, .int .i64 0]) (t := 37) ?hr ?_; (case hd => rfl); (case hg => rfl); (case hr => first | (go_simp; done) | (go_simp; rfl)); intro gb319 hg w25 hbox hb; have n0_ := Aside0.mk (blk_below (g := gb309) (o := .cells #[.int .i64 a0_0, .int .i64 a0_1, .int .i64 a0_2, .int .i64 a0_3, .int .i64 a0_4, .slice A0_5 l0_5.length c0_5] 26 (0, 0)) (by (with_reducible repeat (first | refine blk_drewN ?_ _ | refine blk_drew ?_ | refine blk_alloc ?_ _)); exact BK309.out) hb); have n1_ := Aside0.mk (blk_below (g := gb310) (o := .cells #[.int .i64 a1_0, .int .i64 a1_1] 23 (0, 0)) (by (with_reducible repeat (first | refine blk_drewN ?_ _ | refine blk_drew ?_ | refine blk_alloc ?_ _)); exact BK310.out) hb); have n2_ := Aside0.mk (blk_below (g := gb315) (o := .cells #[.int .i64 t312, .int .i64 t313] 37 (0, 0)) (by (with_reducible repeat (first | refine blk_drewN ?_ _ | refine blk_drew ?_ | refine blk_alloc ?_ _)); exact BK315.out) hb); have n3_ := Aside0.mk (below_step (by repeat (first | (with_reducible first | exact HB.out | apply below_alloc | apply pw_below_drewN | apply below_drew1 | refine below_set ?_ GE309.out | refine below_set ?_ GE310.out | refine below_set ?_ GE315.out) | exact HB.out)) hb); have n4_ := Aside0.mk (hbox); have n5_ := Aside0.mk ((by rw [hg]; exact (below_size (by repeat (first | (with_reducible first | exact HB.out | apply below_alloc | apply pw_below_drewN | apply below_drew1 | refine below_set ?_ GE309.out | refine below_set ?_ GE310.out | refine below_set ?_ GE315.out) | exact HB.out))) : w.heap.size ≤ gb319)); have n6_ := Aside0.mk ((by rw [hg]; exact (below_size (by repeat (first | (with_reducible first | exact HB.out | apply below_alloc | apply pw_below_drewN | apply below_drew1 | refine below_set ?_ GE309.out | refine below_set ?_ GE310.out | refine below_set ?_ GE315.out) | exact HB.out))) : w.heap.size ≤ gb319)); have n7_ := Aside0.mk ((by rw [hg]; exact Nat.ne_of_lt (blk_lt (g := gb309) (o := .cells #[.int .i64 a0_0, .int .i64 a0_1, .int .i64 a0_2, .int .i64 a0_3, .int .i64 a0_4, .slice A0_5 l0_5.length c0_5] 26 (0, 0)) (by (with_reducible repeat (first | refine blk_drewN ?_ _ | refine blk_drew ?_ | refine blk_alloc ?_ _)); exact BK309.out)) : gb309 ≠ gb319)); have n8_ := Aside0.mk ((by rw [hg]; exact Nat.ne_of_gt (blk_lt (g := gb309) (o := .cells #[.int .i64 a0_0, .int .i64 a0_1, .int .i64 a0_2, .int .i64 a0_3, .int .i64 a0_4, .slice A0_5 l0_5.length c0_5] 26 (0, 0)) (by (with_reducible repeat (first | refine blk_drewN ?_ _ | refine blk_drew ?_ | refine blk_alloc ?_ _)); exact BK309.out)) : gb319 ≠ gb309)); have n9_ := Aside0.mk ((by rw [hg]; exact Nat.ne_of_lt (blk_lt (g := gb310) (o := .cells #[.int .i64 a1_0, .int .i64 a1_1] 23 (0, 0)) (by (with_reducible repeat (first | refine blk_drewN ?_ _ | refine blk_drew ?_ | refine blk_alloc ?_ _)); exact BK310.out)) : gb310 ≠ gb319)); have n10_ := Aside0.mk ((by rw [hg]; exact Nat.ne_of_gt (blk_lt (g := gb310) (o := .cells #[.int .i64 a1_0, .int .i64 a1_1] 23 (0, 0)) (by (with_reducible repeat (first | refine blk_drewN ?_ _ | refine blk_drew ?_ | refine blk_alloc ?_ _)); exact BK310.out)) : gb319 ≠ gb310)); have n11_ := Aside0.mk ((by rw [hg]; exact Nat.ne_of_lt (blk_lt (g := gb315) (o := .cells #[.int .i64 t312, .int .i64 t313] 37 (0, 0)) (by (with_reducible repeat (first | refine blk_drewN ?_ _ | refine blk_drew ?_ | refine blk_alloc ?_ _)); exact BK315.out)) : gb315 ≠ gb319)); have n12_ := Aside0.mk ((by rw [hg]; exact Nat.ne_of_gt (blk_lt (g := gb315) (o := .cells #[.int .i64 t312, .int .i64 t313] 37 (0, 0)) (by (with_reducible repeat (first | refine blk_drewN ?_ _ | refine blk_drew ?_ | refine blk_alloc ?_ _)); exact BK315.out)) : gb319 ≠ gb315)); clear BK309; clear BK310; clear BK315; clear HB; have BK309 := n0_; have BK310 := n1_; have BK315 := n2_; have HB := n3_; have BK319 := n4_; have GW319 := n5_; have GE319 := n6_; have NB309_319 := n7_; have NB319_309 := n8_; have NB310_319 := n9_; have NB319_310 := n10_; have NB315_319 := n11_; have NB319_315 := n12_; clear n0_ n1_ n2_ n3_ n4_ n5_ n6_ n7_ n8_ n9_ n10_ n11_ n12_; clear hb hbox hg; have hnb26 := NB319_309.out; have hnc26 := NB309_319.out; have hnb27 := NB319_310.out; have hnc27 := NB310_319.out; have hnb28 := NB319_315.out; have hnc28 := NB315_319.out; have hcz29_0 : w25.cell? ⟨gb319, 0, none⟩ = some (.int .i64 0) := (blk_cell BK319.out 0).trans rfl; have hcz29_1 : w25.cell? ⟨gb319, 1, none⟩ = some (.int .i64 0) := (blk_cell BK319.out 1).trans rfl; have hfz29_0 := blk_frozen BK319.out 0; have hfz29_1 := blk_frozen BK319.out 1) | ((with_reducible refine gate_callee (f := 10) rfl ?_); refine goesL_ (some 25) rfl rfl Try.func10 (by kernel_rfl) rfl #[] rfl (by (try simp only [List.map_toArray, List.map_cons, List.map_nil]); first | done | rfl | (simp only [List.length_drop, List.length_take]; rfl)) ?_; (with_reducible refine (mapsheetslaw43_awake.calls k  true _ A7.out).mono ?_); rintro e w30 ⟨rfl, hb⟩; refine ⟨_, rfl, ?_⟩; have n0_ := Aside0.mk (blk_below (g := gb309) (o := .cells #[.int .i64 a0_0, .int .i64 a0_1, .int .i64 a0_2, .int .i64 a0_3, .int .i64 a0_4, .slice A0_5 l0_5.length c0_5] 26 (0, 0)) (by (with_reducible repeat (first | refine blk_drewN ?_ _ | refine blk_drew ?_ | refine blk_alloc ?_ _)); refine blk_far ?_ NB309_319.out _; (with_reducible repeat (first | refine blk_drewN ?_ _ | refine blk_drew ?_ | refine blk_alloc ?_ _)); refine blk_far ?_ NB309_319.out _; (with_reducible repeat (first | refine blk_drewN ?_ _ | refine blk_drew ?_ | refine blk_alloc ?_ _)); exact BK309.out) hb); have n1_ := Aside0.mk (blk_below (g := gb310) (o := .cells #[.int .i64 a1_0, .int .i64 a1_1] 23 (0, 0)) (by (with_reducible repeat (first | refine blk_drewN ?_ _ | refine blk_drew ?_ | refine blk_alloc ?_ _)); refine blk_far ?_ NB310_319.out _; (with_reducible repeat (first | refine blk_drewN ?_ _ | refine blk_drew ?_ | refine blk_alloc ?_ _)); refine blk_far ?_ NB310_319.out _; (with_reducible repeat (first | refine blk_drewN ?_ _ | refine blk_drew ?_ | refine blk_alloc ?_ _)); exact BK310.out) hb); have n2_ := Aside0.mk (blk_below (g := gb315) (o := .cells #[.int .i64 t312, .int .i64 t313] 37 (0, 0)) (by (with_reducible repeat (first | refine blk_drewN ?_ _ | refine blk_drew ?_ | refine blk_alloc ?_ _)); refine blk_far ?_ NB315_319.out _; (with_reducible repeat (first | refine blk_drewN ?_ _ | refine blk_drew ?_ | refine blk_alloc ?_ _)); refine blk_far ?_ NB315_319.out _; (with_reducible repeat (first | refine blk_drewN ?_ _ | refine blk_drew ?_ | refine blk_alloc ?_ _)); exact BK315.out) hb); have n3_ := Aside0.mk (blk_below (g := gb319) (o := .cells #[.int .i64 t316, .int .i64 t317] 37 (0, 0)) (by (with_reducible repeat (first | refine blk_drewN ?_ _ | refine blk_drew ?_ | refine blk_alloc ?_ _)); refine blk_put (cs := #[.int .i64 t316, .int .i64 0]) ?_ 1 _ rfl; (with_reducible repeat (first | refine blk_drewN ?_ _ | refine blk_drew ?_ | refine blk_alloc ?_ _)); refine blk_put (cs := #[.int .i64 0, .int .i64 0]) ?_ 0 _ rfl; (with_reducible repeat (first | refine blk_drewN ?_ _ | refine blk_drew ?_ | refine blk_alloc ?_ _)); exact BK319.out) hb); have n4_ := Aside0.mk (below_step (by repeat (first | (with_reducible first | exact HB.out | apply below_alloc | apply pw_below_drewN | apply below_drew1 | refine below_set ?_ GE309.out | refine below_set ?_ GE310.out | refine below_set ?_ GE315.out | refine below_set ?_ GE319.out) | exact HB.out)) hb); clear BK309; clear BK310; clear BK315; clear BK319; clear HB; have BK309 := n0_; have BK310 := n1_; have BK315 := n2_; have BK319 := n3_; have HB := n4_; clear n0_ n1_ n2_ n3_ n4_; (try clear hb); (try clear hb2); (try clear hk); (try clear hi); have hcz31_0 : w30.cell? ⟨gb315, 0, none⟩ = some (.int .i64 t312) := (blk_cell BK315.out 0).trans rfl; have hcz31_1 : w30.cell? ⟨gb315, 1, none⟩ = some (.int .i64 t313) := (blk_cell BK315.out 1).trans rfl; have hfz31_0 := blk_frozen BK315.out 0; have hfz31_1 := blk_frozen BK315.out 1; have hcz32_0 : w30.cell? ⟨gb319, 0, none⟩ = some (.int .i64 t316) := (blk_cell BK319.out 0).trans rfl; have hcz32_1 : w30.cell? ⟨gb319, 1, none⟩ = some (.int .i64 t317) := (blk_cell BK319.out 1).trans rfl; have hfz32_0 := blk_frozen BK319.out 0; have hfz32_1 := blk_frozen BK319.out 1))
    go_ret
    exact ⟨by first | rfl | (simp [errW_none, errW_some] <;> rfl) | (simp [*, errW_none, errW_some] <;> rfl), by repeat (first | (with_reducible first | exact HB.out | apply below_alloc | apply pw_below_drewN | apply below_drew1 | refine below_set ?_ GE309.out | refine below_set ?_ GE310.out | refine below_set ?_ GE315.out | refine below_set ?_ GE319.out) | exact HB.out)⟩
   ·rw [if_neg c9] at H
    exact absurd H (by simp)
  ·replace c8 := Bool.eq_false_iff.mpr c8
   subst c8
   have H1 : (none) = some r := by rw [if_neg (show ¬ (false = true) by decide)] at H; exact H
   clear H
   have H := H1
   clear H1
   exact absurd H (by simp)
 ·replace c4 := Bool.eq_false_iff.mpr c4
  subst c4
  have H1 : ((mapsheetslaw43_awake.f k).bind fun t321 => (some t321)) = some r := by rw [if_neg (show ¬ (false = true) by decide)] at H; exact H
  clear H
  have H := H1
  clear H1
  replace H := Option.bind_eq_some_iff.mp H
  obtain ⟨t321, A330, H⟩ := H
  replace H : (some t321) = some r := H
  have A33 := Aside0.mk A330
  clear A330
  obtain rfl := Option.some.inj H
  go_enter Try.func4, Try.ntmps4
  go_wp2_with (first | ((with_reducible refine gate_dst (N := 2) rfl ?_); refine box_event ?hg (N := 2) ?hd (cs := #[.int .i64 a0_0, .int .i64 a0_1, .int .i64 a0_2, .int .i64 a0_3, .int .i64 a0_4, .slice A0_5 l0_5.length c0_5]) (t := 26) ?hr ?_; (case hd => rfl); (case hg => rfl); (case hr => first | (go_simp; done) | (go_simp; rfl)); intro gb309 hg w34 hbox hb; have n0_ := Aside0.mk (below_step (by repeat (first | (with_reducible first | exact HB.out | apply below_alloc | apply pw_below_drewN | apply below_drew1) | exact HB.out)) hb); have n1_ := Aside0.mk (hbox); have n2_ := Aside0.mk ((by rw [hg]; exact (below_size (by repeat (first | (with_reducible first | exact HB.out | apply below_alloc | apply pw_below_drewN | apply below_drew1) | exact HB.out))) : w.heap.size ≤ gb309)); have n3_ := Aside0.mk ((by rw [hg]; exact (below_size (by repeat (first | (with_reducible first | exact HB.out | apply below_alloc | apply pw_below_drewN | apply below_drew1) | exact HB.out))) : w.heap.size ≤ gb309)); clear HB; have HB := n0_; have BK309 := n1_; have GW309 := n2_; have GE309 := n3_; clear n0_ n1_ n2_ n3_; clear hb hbox hg) | ((with_reducible refine gate_dst (N := 3) rfl ?_); refine box_event ?hg (N := 3) ?hd (cs := #[.int .i64 a1_0, .int .i64 a1_1]) (t := 23) ?hr ?_; (case hd => rfl); (case hg => rfl); (case hr => first | (go_simp; done) | (go_simp; rfl)); intro gb310 hg w35 hbox hb; have n0_ := Aside0.mk (blk_below (g := gb309) (o := .cells #[.int .i64 a0_0, .int .i64 a0_1, .int .i64 a0_2, .int .i64 a0_3, .int .i64 a0_4, .slice A0_5 l0_5.length c0_5] 26 (0, 0)) (by (with_reducible repeat (first | refine blk_drewN ?_ _ | refine blk_drew ?_ | refine blk_alloc ?_ _)); exact BK309.out) hb); have n1_ := Aside0.mk (below_step (by repeat (first | (with_reducible first | exact HB.out | apply below_alloc | apply pw_below_drewN | apply below_drew1 | refine below_set ?_ GE309.out) | exact HB.out)) hb); have n2_ := Aside0.mk (hbox); have n3_ := Aside0.mk ((by rw [hg]; exact (below_size (by repeat (first | (with_reducible first | exact HB.out | apply below_alloc | apply pw_below_drewN | apply below_drew1 | refine below_set ?_ GE309.out) | exact HB.out))) : w.heap.size ≤ gb310)); have n4_ := Aside0.mk ((by rw [hg]; exact (below_size (by repeat (first | (with_reducible first | exact HB.out | apply below_alloc | apply pw_below_drewN | apply below_drew1 | refine below_set ?_ GE309.out) | exact HB.out))) : w.heap.size ≤ gb310)); have n5_ := Aside0.mk ((by rw [hg]; exact Nat.ne_of_lt (blk_lt (g := gb309) (o := .cells #[.int .i64 a0_0, .int .i64 a0_1, .int .i64 a0_2, .int .i64 a0_3, .int .i64 a0_4, .slice A0_5 l0_5.length c0_5] 26 (0, 0)) (by (with_reducible repeat (first | refine blk_drewN ?_ _ | refine blk_drew ?_ | refine blk_alloc ?_ _)); exact BK309.out)) : gb309 ≠ gb310)); have n6_ := Aside0.mk ((by rw [hg]; exact Nat.ne_of_gt (blk_lt (g := gb309) (o := .cells #[.int .i64 a0_0, .int .i64 a0_1, .int .i64 a0_2, .int .i64 a0_3, .int .i64 a0_4, .slice A0_5 l0_5.length c0_5] 26 (0, 0)) (by (with_reducible repeat (first | refine blk_drewN ?_ _ | refine blk_drew ?_ | refine blk_alloc ?_ _)); exact BK309.out)) : gb310 ≠ gb309)); clear BK309; clear HB; have BK309 := n0_; have HB := n1_; have BK310 := n2_; have GW310 := n3_; have GE310 := n4_; have NB309_310 := n5_; have NB310_309 := n6_; clear n0_ n1_ n2_ n3_ n4_ n5_ n6_; clear hb hbox hg; have hnb36 := NB309_310.out; have hnc36 := NB310_309.out; have hcz37_0 : w35.cell? ⟨gb309, 0, none⟩ = some (.int .i64 a0_0) := (blk_cell BK309.out 0).trans rfl; have hcz37_1 : w35.cell? ⟨gb309, 1, none⟩ = some (.int .i64 a0_1) := (blk_cell BK309.out 1).trans rfl; have hcz37_2 : w35.cell? ⟨gb309, 2, none⟩ = some (.int .i64 a0_2) := (blk_cell BK309.out 2).trans rfl; have hcz37_3 : w35.cell? ⟨gb309, 3, none⟩ = some (.int .i64 a0_3) := (blk_cell BK309.out 3).trans rfl; have hcz37_4 : w35.cell? ⟨gb309, 4, none⟩ = some (.int .i64 a0_4) := (blk_cell BK309.out 4).trans rfl; have hcz37_5 : w35.cell? ⟨gb309, 5, none⟩ = some (.slice A0_5 l0_5.length c0_5) := (blk_cell BK309.out 5).trans rfl; have hfz37_0 := blk_frozen BK309.out 0; have hfz37_1 := blk_frozen BK309.out 1; have hfz37_2 := blk_frozen BK309.out 2; have hfz37_3 := blk_frozen BK309.out 3; have hfz37_4 := blk_frozen BK309.out 4; have hfz37_5 := blk_frozen BK309.out 5) | ((with_reducible refine gate_callee (f := 9) rfl ?_); refine goesL_ (some 10) rfl rfl Try.func9 (by kernel_rfl) rfl #[.agg #[.int .i64 a0_0, .int .i64 a0_1, .int .i64 a0_2, .int .i64 a0_3, .int .i64 a0_4, .slice A0_5 l0_5.length c0_5]] rfl (by (try simp only [List.map_toArray, List.map_cons, List.map_nil]); first | done | rfl | (simp only [List.length_drop, List.length_take]; rfl)) ?_; (with_reducible refine (mapsheetslaw43_light.calls a0_0 a0_1 a0_2 a0_3 a0_4 _ _ l0_5 false _ ?side1 ?side2 A3.out).mono ?_); (case side1 => repeat (first | exact (Kd.C_below HR0_5.out HB.out) | (with_reducible refine Kd.C_alloc ?_ _) | (with_reducible refine Kd.C_drewN ?_ _) | (with_reducible refine Kd.C_drew ?_))); (case side2 => exact HC0_5.out); rintro e w38 ⟨rfl, hb⟩; refine ⟨_, rfl, ?_⟩; have n0_ := Aside0.mk (blk_below (g := gb309) (o := .cells #[.int .i64 a0_0, .int .i64 a0_1, .int .i64 a0_2, .int .i64 a0_3, .int .i64 a0_4, .slice A0_5 l0_5.length c0_5] 26 (0, 0)) (by (with_reducible repeat (first | refine blk_drewN ?_ _ | refine blk_drew ?_ | refine blk_alloc ?_ _)); exact BK309.out) hb); have n1_ := Aside0.mk (blk_below (g := gb310) (o := .cells #[.int .i64 a1_0, .int .i64 a1_1] 23 (0, 0)) (by (with_reducible repeat (first | refine blk_drewN ?_ _ | refine blk_drew ?_ | refine blk_alloc ?_ _)); exact BK310.out) hb); have n2_ := Aside0.mk (below_step (by repeat (first | (with_reducible first | exact HB.out | apply below_alloc | apply pw_below_drewN | apply below_drew1 | refine below_set ?_ GE309.out | refine below_set ?_ GE310.out) | exact HB.out)) hb); clear BK309; clear BK310; clear HB; have BK309 := n0_; have BK310 := n1_; have HB := n2_; clear n0_ n1_ n2_; (try clear hb); (try clear hb2); (try clear hk); (try clear hi)) | ((with_reducible refine gate_callee (f := 10) rfl ?_); refine goesL_ (some 12) rfl rfl Try.func10 (by kernel_rfl) rfl #[] rfl (by (try simp only [List.map_toArray, List.map_cons, List.map_nil]); first | done | rfl | (simp only [List.length_drop, List.length_take]; rfl)) ?_; (with_reducible refine (mapsheetslaw43_awake.calls k  t321 _ A33.out).mono ?_); rintro e w39 ⟨rfl, hb⟩; refine ⟨_, rfl, ?_⟩; have n0_ := Aside0.mk (blk_below (g := gb309) (o := .cells #[.int .i64 a0_0, .int .i64 a0_1, .int .i64 a0_2, .int .i64 a0_3, .int .i64 a0_4, .slice A0_5 l0_5.length c0_5] 26 (0, 0)) (by (with_reducible repeat (first | refine blk_drewN ?_ _ | refine blk_drew ?_ | refine blk_alloc ?_ _)); exact BK309.out) hb); have n1_ := Aside0.mk (blk_below (g := gb310) (o := .cells #[.int .i64 a1_0, .int .i64 a1_1] 23 (0, 0)) (by (with_reducible repeat (first | refine blk_drewN ?_ _ | refine blk_drew ?_ | refine blk_alloc ?_ _)); exact BK310.out) hb); have n2_ := Aside0.mk (below_step (by repeat (first | (with_reducible first | exact HB.out | apply below_alloc | apply pw_below_drewN | apply below_drew1 | refine below_set ?_ GE309.out | refine below_set ?_ GE310.out) | exact HB.out)) hb); clear BK309; clear BK310; clear HB; have BK309 := n0_; have BK310 := n1_; have HB := n2_; clear n0_ n1_ n2_; (try clear hb); (try clear hb2); (try clear hk); (try clear hi)))
  go_ret
  exact ⟨by first | rfl | (simp [errW_none, errW_some] <;> rfl) | (simp [*, errW_none, errW_some] <;> rfl), by repeat (first | (with_reducible first | exact HB.out | apply below_alloc | apply pw_below_drewN | apply below_drew1 | refine below_set ?_ GE309.out | refine below_set ?_ GE310.out) | exact HB.out)⟩
def mapsheetslaw43_TerrainHeights.Pure : Prop := ∀ (a0_0 : Int) (a0_1 : Int) (a0_2 : Int) (a0_3 : Int) (a0_4 : Int) (l0_5 : List Int) (a1_0 : Int) (a1_1 : Int), (Lit.int .i64 a0_0).wf = true → (Lit.int .i64 a0_1).wf = true → (Lit.int .i64 a0_2).wf = true → (Lit.int .i64 a0_3).wf = true → (Lit.int .i64 a0_4).wf = true → l0_5.length * 8 ≤ 140737488351232 → (∀ x_ ∈ l0_5, (Lit.int .i64 x_).wf = true) → (Lit.int .i64 a1_0).wf = true → (Lit.int .i64 a1_1).wf = true → ∃ k, mapsheetslaw43_TerrainHeights.f k a0_0 a0_1 a0_2 a0_3 a0_4 l0_5 a1_0 a1_1 = some true
end Go.Proofs.Ytachglfhgcdobaa.PAll
end
section
namespace Go.Proofs.Ytachglfhgcdobaa.PAll
open Go.RowKit Go.Proofs.YtachglfhgcdobaaW.PrintWords Go.Proofs.YtachglfhgcdobaaW.PrintLast
set_option linter.unusedVariables false
theorem awake_eq (k : Nat) (hk : 100 ≤ k) : mapsheetslaw43_awake.f k = some true := by
  have h : mapsheetslaw43_awake.f 100 = some true := by kernel_rfl
  exact at_rounds (g := fun k => mapsheetslaw43_awake.f k) (fun k => mapsheetslaw43_awake.mono k) hk h
theorem light_eq (x y c r s : Int) (l : List Int) : mapsheetslaw43_light.f x y c r s l = some (decide ((l.length : Int) ≤ 4200)) := rfl
end Go.Proofs.Ytachglfhgcdobaa.PAll
end
section
namespace Go.Proofs.Ytachglfhgcdobaa.PAll
open Go.RowKit Go.Proofs.YtachglfhgcdobaaW.PrintWords Go.Proofs.YtachglfhgcdobaaW.PrintLast
set_option linter.unusedVariables false
theorem u64w (x : Int) : IntKind.u64.wrap x = x % 18446744073709551616 := by simp [IntKind.wrap, IntKind.bits, IntKind.signed]
theorem i64wf {a : Int} (h : (Lit.int .i64 a).wf = true) : -9223372036854775808 ≤ a ∧ a ≤ 9223372036854775807 := by
  simp only [Lit.wf, IntKind.min, IntKind.max, IntKind.signed, IntKind.bits, Bool.and_eq_true, decide_eq_true_eq, if_true] at h
  exact ⟨by have := h.1; omega, by have := h.2; omega⟩
end Go.Proofs.Ytachglfhgcdobaa.PAll
end
section
namespace Go.Proofs.Ytachglfhgcdobaa.PAll
open Go.RowKit Go.Proofs.YtachglfhgcdobaaW.PrintWords Go.Proofs.YtachglfhgcdobaaW.PrintLast
set_option linter.unusedVariables false
theorem w64 {x : Int} (h : -9223372036854775808 ≤ x ∧ x ≤ 9223372036854775807) : wrap64 x = x := by unfold wrap64; omega
theorem num_abs_eq {a : Int} (h : -9223372036854775808 ≤ a ∧ a ≤ 9223372036854775807) : num_abs.f a = some (a.natAbs : Int) := by
  unfold num_abs.f
  split
  · refine congrArg some ?_; simp only [u64w]; omega
  · refine congrArg some ?_; simp only [u64w]; omega
theorem num_gcd_eq : ∀ (k a b : Nat), b < k → num_gcd.f k a b = some (Nat.gcd a b : Int)
  | 0, a, b, h => absurd h (Nat.not_lt_zero _)
  | k + 1, a, b, h => by
    unfold num_gcd.f
    simp only [num_gcd.l0]
    by_cases hb : b = 0
    · subst hb; rw [if_pos (by simp)]; simp
    · rw [if_neg (by omega), ← Int.ofNat_tmod]
      have hlt : a % b < b := Nat.mod_lt a (by omega)
      have ih := num_gcd_eq k b (a % b) (by omega)
      unfold num_gcd.f at ih
      rw [ih]
      congr 2
      rw [Nat.gcd_comm, ← Nat.gcd_rec]
      exact Nat.gcd_comm b a
def rst (a b : Int) : Int := if 0 < b then a % b else -((-a) % (-b))
def up (a b : Int) : Prop := rst a b ≠ 0 ∧ (b.natAbs : Int) ≤ 2 * (rst a b).natAbs
instance (a b : Int) : Decidable (up a b) := inferInstanceAs (Decidable (_ ∧ _))
section
variable {a b : Int} (ha : -9223372036854775808 ≤ a ∧ a ≤ 9223372036854775807) (hb : -9223372036854775808 ≤ b ∧ b ≤ 9223372036854775807)
include ha hb
end
end Go.Proofs.Ytachglfhgcdobaa.PAll
end
section
namespace Go.Proofs.Ytachglfhgcdobaa.PAll
open Go.RowKit Go.Proofs.YtachglfhgcdobaaW.PrintWords Go.Proofs.YtachglfhgcdobaaW.PrintLast
set_option linter.unusedVariables false
theorem num_signed_true {n : Int} (h : 0 ≤ n) (h1 : n < 18446744073709551616) : num_signed.f true n = some (if n ≤ 9223372036854775808 then (-n, true) else (wrap64 (-(wrap64 n)), false)) := by
  unfold num_signed.f
  rw [if_pos rfl]
  by_cases hn : n ≤ 9223372036854775808
  · rw [if_pos hn, decide_eq_true hn]
    refine congrArg some (Prod.ext ?_ rfl)
    show wrap64 (-(wrap64 n)) = -n
    unfold wrap64; omega
  · rw [if_neg hn, decide_eq_false hn]
theorem num_signed_false {n : Int} (h : 0 ≤ n) : num_signed.f false n = some (if n ≤ 9223372036854775807 then (n, true) else (wrap64 n, false)) := by
  unfold num_signed.f
  rw [if_neg (by decide)]
  by_cases hn : n ≤ 9223372036854775807
  · rw [if_pos hn, decide_eq_true hn, w64 (by omega)]
  · rw [if_neg hn, decide_eq_false hn]
end Go.Proofs.Ytachglfhgcdobaa.PAll
end
section
namespace Go.Proofs.Ytachglfhgcdobaa.PAll
open Go.RowKit Go.Proofs.YtachglfhgcdobaaW.PrintWords Go.Proofs.YtachglfhgcdobaaW.PrintLast
set_option linter.unusedVariables false
theorem num_abs_nat {a : Int} (h : -9223372036854775808 ≤ a ∧ a ≤ 9223372036854775807) : a.natAbs ≤ 9223372036854775808 := by omega
end Go.Proofs.Ytachglfhgcdobaa.PAll
end
section
namespace Go.Proofs.Ytachglfhgcdobaa.PAll
open Go.RowKit Go.Proofs.YtachglfhgcdobaaW.PrintWords Go.Proofs.YtachglfhgcdobaaW.PrintLast
set_option linter.unusedVariables false
theorem ref01_size_eq {a : Int} (h : -9223372036854775808 ≤ a ∧ a ≤ 9223372036854775807) : mapsheetsref01_size.f a = some (a.natAbs : Int) := by
  unfold mapsheetsref01_size.f
  split
  · refine congrArg some ?_; simp only [u64w]; omega
  · refine congrArg some ?_; simp only [u64w]; omega
def signedS (m : Bool) (n : Int) : Int × Int := if n > 9223372036854775808 ∨ (n = 9223372036854775808 ∧ m = false) then (0, 15) else if m = true then (-n, 0) else (n, 0)
theorem signedS_true {n : Int} (h : n ≤ 9223372036854775808) : signedS true n = (-n, 0) := by
  unfold signedS; rw [if_neg (by rintro (h | h); omega; exact absurd h.2 (by decide)), if_pos rfl]
theorem signedS_false {n : Int} (h : n < 9223372036854775808) : signedS false n = (n, 0) := by
  unfold signedS; rw [if_neg (by rintro (h | h); omega; have := h.1; omega), if_neg (by decide)]
theorem signedS_over {n : Int} {m : Bool} (h : n > 9223372036854775808 ∨ (n = 9223372036854775808 ∧ m = false)) : signedS m n = (0, 15) := by
  unfold signedS; rw [if_pos h]
theorem ref01_signed_eq (m : Bool) {n : Int} (h : 0 ≤ n) (k : Nat) (hk : 1 ≤ k) : mapsheetsref01_signed.f k m n = some (signedS m n) := by
  obtain ⟨k, rfl⟩ : ∃ j, k = j + 1 := ⟨k - 1, by omega⟩
  have jt : ∀ m n, mapsheetsref01_signed.j0 (k + 1) m n true = some (0, 15) := fun m n => by simp [mapsheetsref01_signed.j0]
  have jf : ∀ m n, mapsheetsref01_signed.j0 (k + 1) m n false = if m = true then some (wrap64 (IntKind.u64.wrap (-n)), 0) else some (wrap64 n, 0) := fun m n => by simp [mapsheetsref01_signed.j0]
  have hneg : n ≤ 9223372036854775808 → wrap64 (IntKind.u64.wrap (-n)) = -n := fun hn => by unfold wrap64; simp only [u64w]; omega
  unfold mapsheetsref01_signed.f
  by_cases h1 : n > 9223372036854775808
  · rw [if_pos h1, jt, signedS_over (.inl h1)]
  · rw [if_neg h1]
    by_cases h2 : n = 9223372036854775808
    · rw [if_pos h2]
      cases m with
      | false => rw [show (!false) = true from rfl, jt, signedS_over (.inr ⟨h2, rfl⟩)]
      | true => rw [show (!true) = false from rfl, jf, if_pos rfl, signedS_true (by omega), hneg (by omega)]
    · rw [if_neg h2, jf]
      cases m with
      | true => rw [if_pos rfl, signedS_true (by omega), hneg (by omega)]
      | false => rw [if_neg (by simp), signedS_false (by omega), w64 (by omega)]
section
variable {a b : Int} (ha : -9223372036854775808 ≤ a ∧ a ≤ 9223372036854775807) (hb : -9223372036854775808 ≤ b ∧ b ≤ 9223372036854775807)
include ha hb
end
end Go.Proofs.Ytachglfhgcdobaa.PAll
end
section
namespace Go.Proofs.Ytachglfhgcdobaa.PAll
open Go.RowKit Go.Proofs.YtachglfhgcdobaaW.PrintWords Go.Proofs.YtachglfhgcdobaaW.PrintLast
set_option linter.unusedVariables false
theorem ref01_common_eq : ∀ (k a b : Nat), b < k → mapsheetsref01_common.f k a b = some (Nat.gcd a b : Int)
  | 0, a, b, h => absurd h (Nat.not_lt_zero _)
  | k + 1, a, b, h => by
    unfold mapsheetsref01_common.f
    simp only [mapsheetsref01_common.l0]
    by_cases hb : b = 0
    · subst hb; rw [if_neg (by simp)]; simp
    · rw [if_pos (by omega), if_neg (by omega), ← Int.ofNat_tmod]
      have hlt : a % b < b := Nat.mod_lt a (by omega)
      have ih := ref01_common_eq k b (a % b) (by omega)
      unfold mapsheetsref01_common.f at ih
      rw [ih]
      congr 2
      rw [Nat.gcd_comm, ← Nat.gcd_rec]
      exact Nat.gcd_comm b a
end Go.Proofs.Ytachglfhgcdobaa.PAll
end
section
namespace Go.Proofs.Ytachglfhgcdobaa.PAll
open Go.RowKit Go.Proofs.YtachglfhgcdobaaW.PrintWords Go.Proofs.YtachglfhgcdobaaW.PrintLast
set_option linter.unusedVariables false
def fitN (s : Bool) (n : Nat) : Prop := if s = true then n ≤ 9223372036854775808 else n ≤ 9223372036854775807
instance (s : Bool) (n : Nat) : Decidable (fitN s n) := by unfold fitN; infer_instance
def sgnN (s : Bool) (n : Nat) : Int := if s = true then -(n : Int) else (n : Int)
def makeS (a b : Int) : Int × Int × Int :=
  if b = 0 then (0, 0, 21)
  else if fitN ((decide (a < 0)) != (decide (b < 0))) (a.natAbs / Nat.gcd a.natAbs b.natAbs) ∧ b.natAbs / Nat.gcd a.natAbs b.natAbs ≤ 9223372036854775807 then
    (sgnN ((decide (a < 0)) != (decide (b < 0))) (a.natAbs / Nat.gcd a.natAbs b.natAbs), ((b.natAbs / Nat.gcd a.natAbs b.natAbs : Nat) : Int), 0)
  else (0, 0, 15)
theorem fitN_true {n : Nat} : fitN true n ↔ n ≤ 9223372036854775808 := by unfold fitN; rw [if_pos rfl]
theorem fitN_false {n : Nat} : fitN false n ↔ n ≤ 9223372036854775807 := by unfold fitN; rw [if_neg (by decide)]
theorem sgnN_true {n : Nat} : sgnN true n = -(n : Int) := by unfold sgnN; rw [if_pos rfl]
theorem sgnN_false {n : Nat} : sgnN false n = (n : Int) := by unfold sgnN; rw [if_neg (by decide)]
theorem num_signed_fit (s : Bool) (n : Nat) (h : n ≤ 9223372036854775808) : ∃ v, num_signed.f s (n : Int) = some (v, decide (fitN s n)) ∧ (fitN s n → v = sgnN s n) := by
  cases s with
  | true =>
    rw [num_signed_true (by omega) (by omega), if_pos (by omega), decide_eq_true (fitN_true.2 h)]
    exact ⟨_, rfl, fun _ => sgnN_true.symm⟩
  | false =>
    rw [num_signed_false (by omega)]
    by_cases hn : n ≤ 9223372036854775807
    · rw [if_pos (by omega), decide_eq_true (fitN_false.2 hn)]
      exact ⟨_, rfl, fun _ => sgnN_false.symm⟩
    · rw [if_neg (by omega), decide_eq_false (fun h => hn (fitN_false.1 h))]
      exact ⟨_, rfl, fun h => absurd (fitN_false.1 h) hn⟩
theorem signedS_fit (s : Bool) (n : Nat) : signedS s (n : Int) = if fitN s n then (sgnN s n, 0) else (0, 15) := by
  cases s with
  | true =>
    by_cases hn : n ≤ 9223372036854775808
    · rw [if_pos (fitN_true.2 hn), signedS_true (by omega), sgnN_true]
    · rw [if_neg (fun h => hn (fitN_true.1 h)), signedS_over (.inl (by omega))]
  | false =>
    by_cases hn : n ≤ 9223372036854775807
    · rw [if_pos (fitN_false.2 hn), signedS_false (by omega), sgnN_false]
    · rw [if_neg (fun h => hn (fitN_false.1 h)), signedS_over (by by_cases he : (n : Int) = 9223372036854775808; exact .inr ⟨he, rfl⟩; exact .inl (by omega))]
theorem gcd_pos_of {a b : Int} (hb : b ≠ 0) : 0 < Nat.gcd a.natAbs b.natAbs := Nat.gcd_pos_of_pos_right _ (by omega)
theorem udiv {x g : Nat} (hx : x ≤ 9223372036854775808) : IntKind.u64.wrap (Int.tdiv (x : Int) (g : Int)) = ((x / g : Nat) : Int) := by
  have := Nat.div_le_self x g
  rw [← Int.ofNat_tdiv, u64w]; generalize x / g = D at *; omega
section
variable {a b : Int} (ha : -9223372036854775808 ≤ a ∧ a ≤ 9223372036854775807) (hb : -9223372036854775808 ≤ b ∧ b ≤ 9223372036854775807)
include ha hb
theorem num_Make_eq (k : Nat) (hk : 9223372036854775809 ≤ k) : num_Make.f k a b = some (makeS a b) := by
  unfold num_Make.f makeS
  by_cases h0 : b = 0
  · rw [if_pos h0, if_pos h0]
  · have hA := num_abs_nat ha
    have hB := num_abs_nat hb
    have hg := gcd_pos_of (a := a) h0
    rw [if_neg h0, if_neg h0, num_abs_eq ha, Option.bind_some, num_abs_eq hb, Option.bind_some, num_gcd_eq k _ _ (by omega), Option.bind_some, Option.bind_some, if_neg (by omega), udiv hA, udiv hB]
    have d1 := Nat.div_le_self a.natAbs (Nat.gcd a.natAbs b.natAbs)
    have d2 := Nat.div_le_self b.natAbs (Nat.gcd a.natAbs b.natAbs)
    generalize a.natAbs / Nat.gcd a.natAbs b.natAbs = x at *
    generalize b.natAbs / Nat.gcd a.natAbs b.natAbs = y at *
    generalize ((decide (a < 0)) != (decide (b < 0))) = s at *
    obtain ⟨v, e1, v1⟩ := num_signed_fit s x (by omega)
    obtain ⟨u, e2, u1⟩ := num_signed_fit false y (by omega)
    rw [e1, Option.bind_some, Option.bind_some, e2, Option.bind_some]
    have hy : fitN false y ↔ y ≤ 9223372036854775807 := fitN_false
    show (if decide (fitN s x) = true then (if decide (fitN false y) = true then some (v, u, (0 : Int)) else some (0, 0, 15)) else some (0, 0, 15)) = _
    by_cases f1 : fitN s x
    · by_cases f2 : y ≤ 9223372036854775807
      · rw [if_pos (decide_eq_true f1), if_pos (decide_eq_true (hy.2 f2)), if_pos (show fitN s x ∧ y ≤ 9223372036854775807 from ⟨f1, f2⟩), v1 f1, u1 (hy.2 f2), sgnN_false]
      · rw [if_pos (decide_eq_true f1), if_neg (show ¬ decide (fitN false y) = true by rw [decide_eq_true_eq]; exact fun h => f2 (hy.1 h)), if_neg (show ¬ (fitN s x ∧ y ≤ 9223372036854775807) from fun h => f2 h.2)]
    · rw [if_neg (show ¬ decide (fitN s x) = true by rw [decide_eq_true_eq]; exact f1), if_neg (show ¬ (fitN s x ∧ y ≤ 9223372036854775807) from fun h => f1 h.1)]
theorem ref01_Make_eq (k : Nat) (hk : 9223372036854775809 ≤ k) : mapsheetsref01_Make.f k a b = some (makeS a b) := by
  unfold mapsheetsref01_Make.f makeS
  by_cases h0 : b = 0
  · rw [if_pos h0, if_pos h0]
  · have hA := num_abs_nat ha
    have hB := num_abs_nat hb
    have hg := gcd_pos_of (a := a) h0
    rw [if_neg h0, if_neg h0, ref01_size_eq ha, Option.bind_some, ref01_size_eq hb, Option.bind_some, ref01_common_eq k _ _ (by omega), Option.bind_some]
    have hz : a = 0 → a.natAbs / Nat.gcd a.natAbs b.natAbs = 0 := by intro h; subst h; simp
    have d1 := Nat.div_le_self a.natAbs (Nat.gcd a.natAbs b.natAbs)
    have d2 := Nat.div_le_self b.natAbs (Nat.gcd a.natAbs b.natAbs)
    have u1 := udiv (g := Nat.gcd a.natAbs b.natAbs) hA
    have u2 := udiv (g := Nat.gcd a.natAbs b.natAbs) hB
    generalize a.natAbs / Nat.gcd a.natAbs b.natAbs = x at *
    generalize b.natAbs / Nat.gcd a.natAbs b.natAbs = y at *
    have hy : fitN false y ↔ y ≤ 9223372036854775807 := fitN_false
    have fin : ∀ s : Bool, ((mapsheetsref01_signed.f k s (x : Int)).bind fun bt307 => (((some (b.natAbs : Int)).bind fun t309 => ((mapsheetsref01_signed.f k false (y : Int)).bind fun bt310 => (if bt307.2 = 0 then (if bt310.2 = 0 then (some (bt307.1, bt310.1, (0 : Int))) else (some (0, 0, 15))) else (some (0, 0, 15)))))))
        = some (if fitN s x ∧ y ≤ 9223372036854775807 then (sgnN s x, (y : Int), 0) else (0, 0, 15)) := by
      intro s
      rw [ref01_signed_eq s (by omega) k (by omega), Option.bind_some, Option.bind_some, ref01_signed_eq false (by omega) k (by omega), Option.bind_some, signedS_fit, signedS_fit]
      by_cases f1 : fitN s x
      · by_cases f2 : y ≤ 9223372036854775807
        · rw [if_pos f1, if_pos (hy.2 f2), if_pos (show fitN s x ∧ y ≤ 9223372036854775807 from ⟨f1, f2⟩), sgnN_false]; rfl
        · rw [if_pos f1, if_neg (show ¬ fitN false y from fun h => f2 (hy.1 h)), if_neg (show ¬ (fitN s x ∧ y ≤ 9223372036854775807) from fun h => f2 h.2)]; rfl
      · rw [if_neg f1, if_neg (show ¬ (fitN s x ∧ y ≤ 9223372036854775807) from fun h => f1 h.1)]; rfl
    cases hs : ((decide (a < 0)) != (decide (b < 0))) with
    | true =>
      rw [if_pos rfl, Option.bind_some, if_neg (by omega), u1, u2, fin]
      by_cases hn : a = 0
      · have := hz hn
        subst this
        have e1 : (a != 0) = false := by subst hn; rfl
        rw [e1]
        rw [sgnN_true, sgnN_false]
        by_cases f2 : y ≤ 9223372036854775807
        · rw [if_pos ⟨fitN_false.2 (by omega), f2⟩, if_pos ⟨fitN_true.2 (by omega), f2⟩]; rfl
        · rw [if_neg (fun h => f2 h.2), if_neg (fun h => f2 h.2)]
      · rw [bne_iff_ne.2 hn]
    | false => rw [if_neg (by decide), Option.bind_some, if_neg (by omega), u1, u2, fin]
end
end Go.Proofs.Ytachglfhgcdobaa.PAll
end
section
namespace Go.Proofs.Ytachglfhgcdobaa.PAll
open Go.RowKit Go.Proofs.YtachglfhgcdobaaW.PrintWords Go.Proofs.YtachglfhgcdobaaW.PrintLast
set_option linter.unusedVariables false
theorem rd_get (l : List Int) (i : Nat) (h : i < l.length) : rd l (i : Int) = l[i] := by
  unfold rd; rw [show ((i : Int)).toNat = i from rfl, List.getD_eq_getElem?_getD, List.getElem?_eq_getElem h, Option.getD_some]
def badV (v : Int) : Bool := decide (v < -10000 ∨ 10000 < v)
def hasBad (l : List Int) : Bool := l.any badV
theorem hasBad_drop {l : List Int} {i : Nat} (hi : i < l.length) : hasBad (l.drop i) = (badV l[i] || hasBad (l.drop (i + 1))) := by
  rw [List.drop_eq_getElem_cons hi]; rfl
theorem hasBad_rd {l : List Int} (h : hasBad l = false) {i : Int} (h0 : 0 ≤ i) (h1 : i < l.length) : -10000 ≤ rd l i ∧ rd l i ≤ 10000 := by
  obtain ⟨n, rfl⟩ : ∃ n : Nat, i = n := ⟨i.toNat, by omega⟩
  have hn : n < l.length := by omega
  rw [rd_get l n hn]
  have := List.any_eq_false.1 h l[n] (List.getElem_mem hn)
  unfold badV at this
  simp only [decide_eq_true_eq] at this
  omega
def fits (x y c r s : Int) : Prop := (-1048576 ≤ x ∧ x ≤ 1048576) ∧ (-1048576 ≤ y ∧ y ≤ 1048576) ∧ (2 ≤ c ∧ c ≤ 64) ∧ (2 ≤ r ∧ r ≤ 64) ∧ (1 ≤ s ∧ s ≤ 1048576) ∧ x + (c - 1) * s ≤ 1048576 ∧ y + (r - 1) * s ≤ 1048576
instance (x y c r s : Int) : Decidable (fits x y c r s) := by unfold fits; infer_instance
def chkS (x y c r s : Int) (l : List Int) : Int := if fits x y c r s then (if (l.length : Int) = c * r then (if hasBad l then 2 else 0) else 1) else 2
theorem chkS_zero {x y c r s : Int} {l : List Int} (h : chkS x y c r s l = 0) : fits x y c r s ∧ (l.length : Int) = c * r ∧ hasBad l = false := by
  unfold chkS at h
  by_cases h1 : fits x y c r s
  · rw [if_pos h1] at h
    by_cases h2 : (l.length : Int) = c * r
    · rw [if_pos h2] at h
      cases h3 : hasBad l with
      | true => rw [h3, if_pos rfl] at h; exact absurd h (by decide)
      | false => exact ⟨h1, h2, rfl⟩
    · rw [if_neg h2] at h; exact absurd h (by decide)
  · rw [if_neg h1] at h; exact absurd h (by decide)
theorem steps_le {n s : Int} (hn : 2 ≤ n ∧ n ≤ 64) (hs : 1 ≤ s ∧ s ≤ 1048576) : 0 ≤ (n - 1) * s ∧ (n - 1) * s ≤ 66060288 := by
  have h1 : 0 ≤ (n - 1) * s := Int.mul_nonneg (by omega) (by omega)
  have h2 : (n - 1) * s ≤ 63 * 1048576 := Int.mul_le_mul (by omega) hs.2 (by omega) (by omega)
  omega
theorem area_le {c r : Int} (hc : 2 ≤ c ∧ c ≤ 64) (hr : 2 ≤ r ∧ r ≤ 64) : 0 ≤ c * r ∧ c * r ≤ 4096 := by
  have h1 : 0 ≤ c * r := Int.mul_nonneg (by omega) (by omega)
  have h2 : c * r ≤ 64 * 64 := Int.mul_le_mul hc.2 hr.2 (by omega) (by omega)
  omega
theorem within_eq (a b c : Int) : terrain_within.f a b c = some (decide (b ≤ a ∧ a ≤ c)) := by
  unfold terrain_within.f
  by_cases h : a ≥ b
  · rw [if_pos h]; congr 1; rw [decide_eq_decide]; omega
  · rw [if_neg h, decide_eq_false (by omega)]
theorem idx_loop (l : List Int) (hl : l.length ≤ 4200) : ∀ (m i k : Nat), i + m = l.length → m + 1 ≤ k → ∃ r, slices_IndexFunc_int_int_at30.l0 k l (l.length : Int) (i : Int) = some r ∧ (r ≥ 0 ↔ hasBad (l.drop i) = true)
  | 0, i, k, h, hk => by
    obtain ⟨k, rfl⟩ : ∃ j, k = j + 1 := ⟨k - 1, by omega⟩
    refine ⟨-1, ?_, ?_⟩
    · simp only [slices_IndexFunc_int_int_at30.l0]; rw [if_neg (by omega)]
    · rw [List.drop_eq_nil_of_le (by omega)]; simp [hasBad]
  | m + 1, i, k, h, hk => by
    obtain ⟨k, rfl⟩ : ∃ j, k = j + 1 := ⟨k - 1, by omega⟩
    have hi : i < l.length := by omega
    have e : l.drop i = l[i] :: l.drop (i + 1) := List.drop_eq_getElem_cons hi
    have hc : terrain_Check_1.f (rd l (i : Int)) = some (badV l[i]) := by
      rw [rd_get l i hi]; unfold terrain_Check_1.f badV
      rw [within_eq, Option.bind_some]; congr 1
      rw [← decide_not, decide_eq_decide]; omega
    simp only [slices_IndexFunc_int_int_at30.l0]
    rw [if_pos (by omega), if_pos (by omega), if_pos (by omega), hc, Option.bind_some]
    cases hb : badV l[i] with
    | true => rw [if_pos rfl]; exact ⟨_, rfl, by rw [hasBad_drop hi, hb]; simp⟩
    | false =>
      rw [if_neg (by decide)]
      obtain ⟨r, h1, h2⟩ := idx_loop l hl m (i + 1) k (by omega) (by omega)
      refine ⟨r, ?_, ?_⟩
      · rw [show wrap64 ((i : Int) + 1) = ((i + 1 : Nat) : Int) by unfold wrap64; omega]; exact h1
      · rw [h2, hasBad_drop hi, hb, Bool.false_or]
theorem contains_eq (l : List Int) (hl : l.length ≤ 4200) (k : Nat) (hk : 4201 ≤ k) : slices_ContainsFunc_int_int_at30.f k l = some (hasBad l) := by
  obtain ⟨r, h1, h2⟩ := idx_loop l hl l.length 0 k (by omega) (by omega)
  unfold slices_ContainsFunc_int_int_at30.f slices_IndexFunc_int_int_at30.f
  have h1' : slices_IndexFunc_int_int_at30.l0 k l (l.length : Int) 0 = some r := h1
  rw [h1', Option.bind_some]; congr 1
  rw [List.drop_zero] at h2
  cases hb : hasBad l with
  | true => rw [hb] at h2; exact decide_eq_true (h2.2 rfl)
  | false => rw [hb] at h2; exact decide_eq_false (fun h => by have := h2.1 h; cases this)
theorem terrain_Check_eq (x y c r s : Int) (l : List Int) (hl : l.length ≤ 4200) (k : Nat) (hk : 4210 ≤ k) : terrain_Check.f k x y c r s l = some (chkS x y c r s l) := by
  obtain ⟨k, rfl⟩ : ∃ j, k = j + 2 := ⟨k - 2, by omega⟩
  have j0t : ∀ x y c r s l, terrain_Check.j0 (k + 2) true x y c r s l = some 2 := fun _ _ _ _ _ _ => by simp only [terrain_Check.j0]; rfl
  have j1t : ∀ x y c r s l, terrain_Check.j1 (k + 1) true x y c r s l = some 2 := fun _ _ _ _ _ _ => by simp only [terrain_Check.j1]; rfl
  have bad : ¬ fits x y c r s → chkS x y c r s l = 2 := fun h => by unfold chkS; rw [if_neg h]
  unfold terrain_Check.f
  simp only [within_eq, Option.bind_some, decide_eq_true_eq]
  by_cases h1 : -1048576 ≤ x ∧ x ≤ 1048576
  case neg => rw [if_neg h1, j0t, bad (fun h => h1 h.1)]
  rw [if_pos h1]
  by_cases h2 : -1048576 ≤ y ∧ y ≤ 1048576
  case neg => rw [if_neg h2, j0t, bad (fun h => h2 h.2.1)]
  rw [if_pos h2]
  by_cases h3 : 2 ≤ c ∧ c ≤ 64
  case neg => rw [if_neg h3, j0t, bad (fun h => h3 h.2.2.1)]
  rw [if_pos h3]
  by_cases h4 : 2 ≤ r ∧ r ≤ 64
  case neg => rw [if_neg h4, j0t, bad (fun h => h4 h.2.2.2.1)]
  rw [if_pos h4]
  by_cases h5 : 1 ≤ s ∧ s ≤ 1048576
  case neg => rw [decide_eq_false h5, Bool.not_false, j0t, bad (fun h => h5 h.2.2.2.2.1)]
  rw [decide_eq_true h5, Bool.not_true]
  have p1 := steps_le h3 h5
  have p2 := steps_le h4 h5
  have p3 := area_le h3 h4
  have w1 : wrap64 (x + wrap64 (wrap64 (c - 1) * s)) = x + (c - 1) * s := by
    rw [show wrap64 (c - 1) = c - 1 from w64 (by omega), show wrap64 ((c - 1) * s) = (c - 1) * s from w64 (by omega)]; exact w64 (by omega)
  have w2 : wrap64 (y + wrap64 (wrap64 (r - 1) * s)) = y + (r - 1) * s := by
    rw [show wrap64 (r - 1) = r - 1 from w64 (by omega), show wrap64 ((r - 1) * s) = (r - 1) * s from w64 (by omega)]; exact w64 (by omega)
  have w3 : wrap64 (c * r) = c * r := w64 (by omega)
  simp only [terrain_Check.j0]
  rw [if_neg (by decide), w1, w2]
  by_cases h6 : x + (c - 1) * s > 1048576
  · rw [if_pos h6, j1t, bad (fun h => by have := h.2.2.2.2.2.1; omega)]
  rw [if_neg h6]
  by_cases h7 : y + (r - 1) * s > 1048576
  · rw [decide_eq_true h7, j1t, bad (fun h => by have := h.2.2.2.2.2.2; omega)]
  rw [decide_eq_false h7]
  have hf : fits x y c r s := ⟨h1, h2, h3, h4, h5, by omega, by omega⟩
  simp only [terrain_Check.j1]
  rw [if_neg (by decide), w3]
  unfold chkS
  rw [if_pos hf]
  by_cases h8 : (l.length : Int) = c * r
  · rw [if_pos h8, if_pos h8, contains_eq l hl k (by omega), Option.bind_some]
    cases hasBad l <;> rfl
  · rw [if_neg h8, if_neg h8]
theorem point_eq (x y : Int) : mapsheetsref10_Point.f x y = some (decide ((-1048576 ≤ x ∧ x ≤ 1048576) ∧ (-1048576 ≤ y ∧ y ≤ 1048576))) := by
  unfold mapsheetsref10_Point.f
  by_cases h1 : x ≥ -1048576
  case neg => rw [if_neg h1, decide_eq_false (by omega)]
  rw [if_pos h1]
  by_cases h2 : x ≤ 1048576
  case neg => rw [if_neg h2, decide_eq_false (by omega)]
  rw [if_pos h2]
  by_cases h3 : y ≥ -1048576
  case neg => rw [if_neg h3, decide_eq_false (by omega)]
  rw [if_pos h3]; congr 1; rw [decide_eq_decide]; omega
theorem ref43_loop (x y c r s : Int) (l : List Int) (hl : l.length ≤ 4200) : ∀ (m i k : Nat), i + m = l.length → m + 1 ≤ k → mapsheetsref43_Check.l0 k (i : Int) x y c r s l = some (if hasBad (l.drop i) then 2 else 0)
  | 0, i, k, h, hk => by
    obtain ⟨k, rfl⟩ : ∃ j, k = j + 1 := ⟨k - 1, by omega⟩
    simp only [mapsheetsref43_Check.l0]
    rw [if_neg (by omega), List.drop_eq_nil_of_le (by omega)]; rfl
  | m + 1, i, k, h, hk => by
    obtain ⟨k, rfl⟩ : ∃ j, k = j + 1 := ⟨k - 1, by omega⟩
    have hi : i < l.length := by omega
    have e : l.drop i = l[i] :: l.drop (i + 1) := List.drop_eq_getElem_cons hi
    simp only [mapsheetsref43_Check.l0]
    rw [if_pos (by omega), if_pos (by omega), rd_get l i hi, hasBad_drop hi]
    by_cases h1 : l[i] < -10000
    · rw [if_pos h1]
      have : badV l[i] = true := decide_eq_true (.inl h1)
      rw [this]; rfl
    · rw [if_neg h1]
      by_cases h2 : l[i] > 10000
      · rw [if_pos h2]
        have : badV l[i] = true := decide_eq_true (.inr h2)
        rw [this]; rfl
      · rw [if_neg h2, show wrap64 ((i : Int) + 1) = ((i + 1 : Nat) : Int) by unfold wrap64; omega, ref43_loop x y c r s l hl m (i + 1) k (by omega) (by omega)]
        have : badV l[i] = false := decide_eq_false (by omega)
        rw [this]; rfl
theorem ref43_Check_eq (x y c r s : Int) (l : List Int) (hl : l.length ≤ 4200) (k : Nat) (hk : 4210 ≤ k) : mapsheetsref43_Check.f k x y c r s l = some (chkS x y c r s l) := by
  obtain ⟨k, rfl⟩ : ∃ j, k = j + 1 := ⟨k - 1, by omega⟩
  have j0t : ∀ x y c r s l, mapsheetsref43_Check.j0 (k + 1) true x y c r s l = some 2 := fun _ _ _ _ _ _ => by simp only [mapsheetsref43_Check.j0]; rfl
  have bad : ¬ fits x y c r s → chkS x y c r s l = 2 := fun h => by unfold chkS; rw [if_neg h]
  unfold mapsheetsref43_Check.f
  simp only [point_eq, Option.bind_some, decide_eq_true_eq]
  by_cases h1 : (-1048576 ≤ x ∧ x ≤ 1048576) ∧ (-1048576 ≤ y ∧ y ≤ 1048576)
  case neg => rw [if_neg h1, j0t, bad (fun h => h1 ⟨h.1, h.2.1⟩)]
  rw [if_pos h1]
  by_cases h3 : c < 2
  · rw [if_pos h3, j0t, bad (fun h => by have := h.2.2.1; omega)]
  rw [if_neg h3]
  by_cases h3' : c > 64
  · rw [if_pos h3', j0t, bad (fun h => by have := h.2.2.1; omega)]
  rw [if_neg h3']
  by_cases h4 : r < 2
  · rw [if_pos h4, j0t, bad (fun h => by have := h.2.2.2.1; omega)]
  rw [if_neg h4]
  by_cases h4' : r > 64
  · rw [if_pos h4', j0t, bad (fun h => by have := h.2.2.2.1; omega)]
  rw [if_neg h4']
  by_cases h5 : s < 1
  · rw [if_pos h5, j0t, bad (fun h => by have := h.2.2.2.2.1; omega)]
  rw [if_neg h5]
  by_cases h5' : s > 1048576
  · rw [decide_eq_true h5', j0t, bad (fun h => by have := h.2.2.2.2.1; omega)]
  rw [decide_eq_false h5']
  have p1 := steps_le (n := c) (s := s) (by omega) (by omega)
  have p2 := steps_le (n := r) (s := s) (by omega) (by omega)
  have p3 := area_le (c := c) (r := r) (by omega) (by omega)
  have w1 : wrap64 (x + wrap64 (wrap64 (c - 1) * s)) = x + (c - 1) * s := by
    rw [show wrap64 (c - 1) = c - 1 from w64 (by omega), show wrap64 ((c - 1) * s) = (c - 1) * s from w64 (by omega)]; exact w64 (by omega)
  have w2 : wrap64 (y + wrap64 (wrap64 (r - 1) * s)) = y + (r - 1) * s := by
    rw [show wrap64 (r - 1) = r - 1 from w64 (by omega), show wrap64 ((r - 1) * s) = (r - 1) * s from w64 (by omega)]; exact w64 (by omega)
  have w3 : wrap64 (c * r) = c * r := w64 (by omega)
  simp only [mapsheetsref43_Check.j0, mapsheetsref43_at.f, Option.bind_some]
  rw [if_neg (by decide), w1, w2, point_eq, Option.bind_some]
  by_cases h6 : x + (c - 1) * s > 1048576 ∨ y + (r - 1) * s > 1048576
  · rw [if_neg (by rw [decide_eq_true_eq]; omega), bad (fun h => by have := h.2.2.2.2.2; omega)]
  rw [if_pos (by rw [decide_eq_true_eq]; omega), w3]
  have hf : fits x y c r s := ⟨h1.1, h1.2, by omega, by omega, by omega, by omega, by omega⟩
  unfold chkS
  rw [if_pos hf]
  by_cases h8 : (l.length : Int) = c * r
  · rw [if_pos h8, if_pos h8]
    have := ref43_loop x y c r s l hl l.length 0 k (by omega) (by omega)
    rw [List.drop_zero] at this
    exact this
  · rw [if_neg h8, if_neg h8]
theorem cell_lt {c r a b : Int} (ha : 0 ≤ a ∧ a < c) (hb : 0 ≤ b ∧ b < r) : 0 ≤ b * c + a ∧ b * c + a < c * r ∧ 0 ≤ b * c := by
  have h1 : 0 ≤ b * c := Int.mul_nonneg hb.1 (by omega)
  have h2 : b * c ≤ (r - 1) * c := Int.mul_le_mul_of_nonneg_right (by omega) (by omega)
  rw [Int.sub_mul, Int.mul_comm r c] at h2
  omega
end Go.Proofs.Ytachglfhgcdobaa.PAll
end
section
namespace Go.Proofs.Ytachglfhgcdobaa.PAll
open Go.RowKit Go.Proofs.YtachglfhgcdobaaW.PrintWords Go.Proofs.YtachglfhgcdobaaW.PrintLast
set_option linter.unusedVariables false
def hgt (l : List Int) (c x y : Int) : Int := rd l (y * c + x)
def rowS (l : List Int) (c q : Int) : List Int := (l.take ((q + 1) * c).toNat).drop (q * c).toNat
theorem rd_part (l : List Int) (A B i : Nat) (h : A + i < B) (hB : B ≤ l.length) : rd ((l.take B).drop A) (i : Int) = rd l ((A + i : Nat) : Int) := by
  rw [rd_get _ i (by rw [List.length_drop, List.length_take]; omega), rd_get l (A + i) (by omega), List.getElem_drop, List.getElem_take]
section
set_option linter.unusedSectionVars false
variable {x y c r s : Int} {l : List Int} (hf : fits x y c r s) (hn : (l.length : Int) = c * r)
include hf hn
theorem hgt_range (hb : hasBad l = false) {a b : Int} (ha : 0 ≤ a ∧ a < c) (hb' : 0 ≤ b ∧ b < r) : -10000 ≤ hgt l c a b ∧ hgt l c a b ≤ 10000 := by
  have := cell_lt ha hb'
  exact hasBad_rd hb this.1 (by omega)
theorem row_ends {q : Int} (hq : 0 ≤ q ∧ q < r) : 0 ≤ q * c ∧ (q + 1) * c = q * c + c ∧ (q + 1) * c ≤ l.length ∧ (l.length : Int) ≤ 4096 := by
  have h := cell_lt (c := c) (r := r) (a := c - 1) (b := q) (by have := hf.2.2.1; omega) hq
  have e : (q + 1) * c = q * c + c := by rw [Int.add_mul, Int.one_mul]
  have p3 := area_le hf.2.2.1 hf.2.2.2.1
  omega
theorem row_eq {q : Int} (hq : 0 ≤ q ∧ q < r) : terrain_row.f x y c r s l q = some (rowS l c q) := by
  obtain ⟨h1, h2, h3, h4⟩ := row_ends hf hn hq
  have hc := hf.2.2.1
  have hr := hf.2.2.2.1
  unfold terrain_row.f rowS
  rw [w64 (x := q + 1) (by omega), w64 (x := q * c) (by omega), w64 (x := (q + 1) * c) (by omega), if_pos (by omega), if_pos (by omega), if_pos (by omega)]
theorem rowS_len {q : Int} (hq : 0 ≤ q ∧ q < r) : ((rowS l c q).length : Int) = c := by
  obtain ⟨h1, h2, h3, h4⟩ := row_ends hf hn hq
  have hc := hf.2.2.1
  unfold rowS
  rw [List.length_drop, List.length_take]; omega
theorem rowS_rd {q p : Int} (hq : 0 ≤ q ∧ q < r) (hp : 0 ≤ p ∧ p < c) : rd (rowS l c q) p = hgt l c p q := by
  obtain ⟨h1, h2, h3, h4⟩ := row_ends hf hn hq
  obtain ⟨n, rfl⟩ : ∃ n : Nat, p = n := ⟨p.toNat, by omega⟩
  unfold rowS hgt
  rw [rd_part l _ _ n (by omega) (by omega)]
  congr 1; omega
end
end Go.Proofs.Ytachglfhgcdobaa.PAll
end
section
namespace Go.Proofs.Ytachglfhgcdobaa.PAll
open Go.RowKit Go.Proofs.YtachglfhgcdobaaW.PrintWords Go.Proofs.YtachglfhgcdobaaW.PrintLast
set_option linter.unusedVariables false
def cellI (x s c X : Int) : Int := mn ((X - x) / s) (c - 2)
def reach (x y c r s X Y : Int) : Prop := (x ≤ X ∧ X ≤ x + (c - 1) * s) ∧ (y ≤ Y ∧ Y ≤ y + (r - 1) * s)
instance (x y c r s X Y : Int) : Decidable (reach x y c r s X Y) := by unfold reach; infer_instance
def interp (s a b c d u v : Int) : Int := if u ≥ v then a * s + ((b - a) * u + (d - b) * v) else a * s + ((c - a) * v + (d - c) * u)
def numS (x y c r s : Int) (l : List Int) (X Y : Int) : Int :=
  interp s (hgt l c (cellI x s c X) (cellI y s r Y)) (hgt l c (cellI x s c X + 1) (cellI y s r Y)) (hgt l c (cellI x s c X) (cellI y s r Y + 1)) (hgt l c (cellI x s c X + 1) (cellI y s r Y + 1)) (X - x - cellI x s c X * s) (Y - y - cellI y s r Y * s)
def heightS (x y c r s : Int) (l : List Int) (X Y : Int) : Int × Int × Int :=
  if chkS x y c r s l = 0 then (if reach x y c r s X Y then makeS (numS x y c r s l X Y) s else (0, 0, 7)) else (0, 0, chkS x y c r s l)
theorem cell_ok {x s c X : Int} (hx : -1048576 ≤ x ∧ x ≤ 1048576) (hc : 2 ≤ c ∧ c ≤ 64) (hs : 1 ≤ s ∧ s ≤ 1048576) (hX : x ≤ X ∧ X ≤ x + (c - 1) * s) (he : x + (c - 1) * s ≤ 1048576) :
    mn (wrap64 (Int.tdiv (wrap64 (X - x)) s)) (wrap64 (c - 2)) = cellI x s c X ∧ 0 ≤ cellI x s c X ∧ cellI x s c X ≤ c - 2 ∧ 0 ≤ X - x - cellI x s c X * s ∧ X - x - cellI x s c X * s ≤ s ∧ 0 ≤ cellI x s c X * s ∧ cellI x s c X * s ≤ 2097152 := by
  have st := steps_le hc hs
  have hd : 0 ≤ X - x := by omega
  have q0 : 0 ≤ (X - x) / s := Int.ediv_nonneg hd (by omega)
  have q1 : (X - x) / s ≤ X - x := Int.ediv_le_self _ hd
  have em := Int.emod_add_mul_ediv (X - x) s
  have e1 := Int.emod_nonneg (X - x) (show s ≠ 0 by omega)
  have e2 := Int.emod_lt_of_pos (X - x) (show 0 < s by omega)
  rw [w64 (x := X - x) (by omega), Int.tdiv_eq_ediv_of_nonneg hd, w64 (x := (X - x) / s) (by omega), w64 (x := c - 2) (by omega)]
  unfold cellI
  generalize (X - x) / s = q at *
  generalize (X - x) % s = m at *
  have hcs : (c - 1) * s = (c - 2) * s + s := by rw [show c - 1 = (c - 2) + 1 by omega, Int.add_mul, Int.one_mul]
  have hsq : s * q = q * s := Int.mul_comm _ _
  unfold mn
  refine ⟨rfl, ?_⟩
  by_cases hq : c - 2 < q
  case neg =>
    rw [if_neg hq]
    have : 0 ≤ q * s := Int.mul_nonneg q0 (by omega)
    by_cases he2 : q = c - 2
    · subst he2; omega
    · have h3 : (q + 1) * s ≤ (c - 1) * s := Int.mul_le_mul_of_nonneg_right (by omega) (by omega)
      rw [Int.add_mul, Int.one_mul] at h3
      omega
  case pos =>
    rw [if_pos hq]
    have h1 : (c - 2) * s ≤ q * s := Int.mul_le_mul_of_nonneg_right (by omega) (by omega)
    have h2 : 0 ≤ (c - 2) * s := Int.mul_nonneg (by omega) (by omega)
    omega
theorem part_le {A B s : Int} (hA : -20000 ≤ A ∧ A ≤ 20000) (hB : 0 ≤ B ∧ B ≤ s) (hs : s ≤ 1048576) : -20971520000 ≤ A * B ∧ A * B ≤ 20971520000 := by
  have h1 : A * B ≤ 20000 * B := Int.mul_le_mul_of_nonneg_right hA.2 hB.1
  have h2 : -20000 * B ≤ A * B := Int.mul_le_mul_of_nonneg_right hA.1 hB.1
  omega
theorem interp_range {s a b c d u v : Int} (ha : -10000 ≤ a ∧ a ≤ 10000) (hb : -10000 ≤ b ∧ b ≤ 10000) (hc : -10000 ≤ c ∧ c ≤ 10000) (hd : -10000 ≤ d ∧ d ≤ 10000) (hu : 0 ≤ u ∧ u ≤ s) (hv : 0 ≤ v ∧ v ≤ s) (hs : 1 ≤ s ∧ s ≤ 1048576) :
    (-62914560000 ≤ interp s a b c d u v ∧ interp s a b c d u v ≤ 62914560000) ∧
    (u ≥ v → wrap64 (wrap64 (a * s) + wrap64 (wrap64 (wrap64 (b - a) * u) + wrap64 (wrap64 (d - b) * v))) = interp s a b c d u v) ∧
    (¬ u ≥ v → wrap64 (wrap64 (a * s) + wrap64 (wrap64 (wrap64 (c - a) * v) + wrap64 (wrap64 (d - c) * u))) = interp s a b c d u v) ∧
    (u ≥ v → wrap64 (wrap64 (wrap64 (a * s) + wrap64 (wrap64 (b - a) * u)) + wrap64 (wrap64 (d - b) * v)) = interp s a b c d u v) ∧
    (¬ u ≥ v → wrap64 (wrap64 (wrap64 (a * s) + wrap64 (wrap64 (c - a) * v)) + wrap64 (wrap64 (d - c) * u)) = interp s a b c d u v) := by
  have p0 := part_le (A := a) (B := s) (by omega) (s := s) (by omega) hs.2
  have p1 := part_le (A := b - a) (B := u) (by omega) hu hs.2
  have p2 := part_le (A := d - b) (B := v) (by omega) hv hs.2
  have p3 := part_le (A := c - a) (B := v) (by omega) hv hs.2
  have p4 := part_le (A := d - c) (B := u) (by omega) hu hs.2
  unfold interp
  refine ⟨?_, ?_, ?_, ?_, ?_⟩
  · split <;> omega
  · intro h
    rw [if_pos h, w64 (x := b - a) (by omega), w64 (x := d - b) (by omega), w64 (x := a * s) (by omega), w64 (x := (b - a) * u) (by omega), w64 (x := (d - b) * v) (by omega), w64 (x := (b - a) * u + (d - b) * v) (by omega), w64 (by omega)]
  · intro h
    rw [if_neg h, w64 (x := c - a) (by omega), w64 (x := d - c) (by omega), w64 (x := a * s) (by omega), w64 (x := (c - a) * v) (by omega), w64 (x := (d - c) * u) (by omega), w64 (x := (c - a) * v + (d - c) * u) (by omega), w64 (by omega)]
  · intro h
    rw [if_pos h, w64 (x := b - a) (by omega), w64 (x := d - b) (by omega), w64 (x := a * s) (by omega), w64 (x := (b - a) * u) (by omega), w64 (x := (d - b) * v) (by omega), w64 (x := a * s + (b - a) * u) (by omega), w64 (by omega)]; omega
  · intro h
    rw [if_neg h, w64 (x := c - a) (by omega), w64 (x := d - c) (by omega), w64 (x := a * s) (by omega), w64 (x := (c - a) * v) (by omega), w64 (x := (d - c) * u) (by omega), w64 (x := a * s + (c - a) * v) (by omega), w64 (by omega)]; omega
theorem makeS_mid {a b : Int} (ha : -62914560000 ≤ a ∧ a ≤ 62914560000) (hb : 1 ≤ b ∧ b ≤ 1048576) : (makeS a b).2.2 = 0 := by
  have d1 := Nat.div_le_self a.natAbs (Nat.gcd a.natAbs b.natAbs)
  have d2 := Nat.div_le_self b.natAbs (Nat.gcd a.natAbs b.natAbs)
  unfold makeS
  rw [if_neg (by omega)]
  generalize a.natAbs / Nat.gcd a.natAbs b.natAbs = x at *
  generalize b.natAbs / Nat.gcd a.natAbs b.natAbs = y at *
  generalize ((decide (a < 0)) != (decide (b < 0))) = s at *
  have hf : fitN s x := by
    cases s
    · exact fitN_false.2 (by omega)
    · exact fitN_true.2 (by omega)
  rw [if_pos ⟨hf, by omega⟩]
theorem pair_eq {t : List Int} {p : Int} (h0 : 0 ≤ p) (h1 : p + 2 ≤ t.length) : (((t.take (p + 2).toNat).drop p.toNat).length : Int) = 2 ∧ rd ((t.take (p + 2).toNat).drop p.toNat) 0 = rd t p ∧ rd ((t.take (p + 2).toNat).drop p.toNat) 1 = rd t (p + 1) := by
  refine ⟨?_, ?_, ?_⟩
  · rw [List.length_drop, List.length_take]; omega
  · have := rd_part t p.toNat (p + 2).toNat 0 (by omega) (by omega)
    rw [show ((0 : Nat) : Int) = 0 from rfl] at this
    rw [this]; congr 1; omega
  · have := rd_part t p.toNat (p + 2).toNat 1 (by omega) (by omega)
    rw [show ((1 : Nat) : Int) = 1 from rfl] at this
    rw [this]; congr 1; omega
theorem terrain_Height_eq (x y c r s : Int) (l : List Int) (hl : l.length ≤ 4200) {X Y : Int} (hX : -9223372036854775808 ≤ X ∧ X ≤ 9223372036854775807) (hY : -9223372036854775808 ≤ Y ∧ Y ≤ 9223372036854775807) (k : Nat) (hk : 9223372036854775810 ≤ k) :
    terrain_Height.f k x y c r s l X Y = some (heightS x y c r s l X Y) := by
  obtain ⟨k, rfl⟩ : ∃ j, k = j + 1 := ⟨k - 1, by omega⟩
  have j0t : terrain_Height.j0 (k + 1) true x y c r s l X Y = some (0, 0, 7) := by rw [terrain_Height.j0, if_pos rfl]
  unfold terrain_Height.f heightS
  rw [terrain_Check_eq x y c r s l hl _ (by omega), Option.bind_some]
  by_cases h : chkS x y c r s l = 0
  case neg => rw [if_neg h, if_neg h]
  rw [if_pos h, if_pos h]
  obtain ⟨hf, hn, hb⟩ := chkS_zero h
  obtain ⟨fx, fy, fc, fr, fs, fX, fY⟩ := hf
  have hf : fits x y c r s := ⟨fx, fy, fc, fr, fs, fX, fY⟩
  have stx := steps_le fc fs
  have sty := steps_le fr fs
  have ex : wrap64 (x + wrap64 (wrap64 (c - 1) * s)) = x + (c - 1) * s := by
    rw [w64 (x := c - 1) (by omega), w64 (x := (c - 1) * s) (by omega)]; exact w64 (by omega)
  have ey : wrap64 (y + wrap64 (wrap64 (r - 1) * s)) = y + (r - 1) * s := by
    rw [w64 (x := r - 1) (by omega), w64 (x := (r - 1) * s) (by omega)]; exact w64 (by omega)
  rw [ex, ey]
  by_cases c1 : X < x
  · rw [if_pos c1, j0t, if_neg (show ¬ reach x y c r s X Y by unfold reach; omega)]
  rw [if_neg c1]
  by_cases c2 : Y < y
  · rw [if_pos c2, j0t, if_neg (show ¬ reach x y c r s X Y by unfold reach; omega)]
  rw [if_neg c2]
  by_cases c3 : X > x + (c - 1) * s
  · rw [if_pos c3, j0t, if_neg (show ¬ reach x y c r s X Y by unfold reach; omega)]
  rw [if_neg c3]
  by_cases c4 : Y > y + (r - 1) * s
  · rw [decide_eq_true c4, j0t, if_neg (show ¬ reach x y c r s X Y by unfold reach; omega)]
  have hr : reach x y c r s X Y := by unfold reach; omega
  rw [decide_eq_false c4, if_pos hr, terrain_Height.j0, if_neg (by decide), if_neg (by omega)]
  obtain ⟨eC, C0, C1, u0, u1, CS0, CS1⟩ := cell_ok (X := X) fx fc fs (by omega) fX
  obtain ⟨eR, R0, R1, v0, v1, RS0, RS1⟩ := cell_ok (X := Y) fy fr fs (by omega) fY
  rw [eC, eR]
  unfold numS
  obtain ⟨col, hcol⟩ : ∃ z, z = cellI x s c X := ⟨_, rfl⟩
  obtain ⟨row, hrow⟩ : ∃ z, z = cellI y s r Y := ⟨_, rfl⟩
  rw [← hcol] at C0 C1 u0 u1 CS0 CS1 ⊢
  rw [← hrow] at R0 R1 v0 v1 RS0 RS1 ⊢
  have len1 := rowS_len hf hn (q := row) (by omega)
  have len2 := rowS_len hf hn (q := row + 1) (by omega)
  obtain ⟨pl1, pa, pb⟩ := pair_eq (t := rowS l c row) (p := col) C0 (by omega)
  obtain ⟨pl2, pc, pd⟩ := pair_eq (t := rowS l c (row + 1)) (p := col) C0 (by omega)
  rw [rowS_rd hf hn (by omega) (by omega)] at pa pb pc pd
  rw [w64 (x := col + 2) (by omega), w64 (x := row + 1) (by omega), w64 (x := X - x) (by omega), w64 (x := Y - y) (by omega), w64 (x := col * s) (by omega), w64 (x := row * s) (by omega), w64 (x := X - x - col * s) (by omega), w64 (x := Y - y - row * s) (by omega)]
  rw [row_eq hf hn (by omega), Option.bind_some, if_pos C0, if_pos (by omega), if_pos (by omega), Option.bind_some, row_eq hf hn (by omega), Option.bind_some, if_pos (by omega), Option.bind_some, pl1, pl2, pa, pb, pc, pd, if_pos (by omega)]
  have ha := hgt_range hf hn hb (a := col) (b := row) (by omega) (by omega)
  have hb1 := hgt_range hf hn hb (a := col + 1) (b := row) (by omega) (by omega)
  have hc1 := hgt_range hf hn hb (a := col) (b := row + 1) (by omega) (by omega)
  have hd1 := hgt_range hf hn hb (a := col + 1) (b := row + 1) (by omega) (by omega)
  obtain ⟨rg, i1, i2, _, _⟩ := interp_range ha hb1 hc1 hd1 ⟨u0, u1⟩ ⟨v0, v1⟩ fs
  by_cases hu : X - x - col * s ≥ Y - y - row * s
  · rw [if_pos hu, if_pos (by omega), if_pos (by omega), i1 hu, num_Make_eq (by omega) (by omega) k (by omega), Option.bind_some]
  · rw [if_neg hu, if_pos (by omega), if_pos (by omega), i2 hu, num_Make_eq (by omega) (by omega) k (by omega), Option.bind_some]
theorem ref43_Height_eq (x y c r s : Int) (l : List Int) (hl : l.length ≤ 4200) {X Y : Int} (hX : -9223372036854775808 ≤ X ∧ X ≤ 9223372036854775807) (hY : -9223372036854775808 ≤ Y ∧ Y ≤ 9223372036854775807) (k : Nat) (hk : 9223372036854775820 ≤ k) :
    mapsheetsref43_Height.f k x y c r s l X Y = some (heightS x y c r s l X Y) := by
  obtain ⟨k, rfl⟩ : ∃ j, k = j + 2 := ⟨k - 2, by omega⟩
  have j0t : mapsheetsref43_Height.j0 (k + 2) true x y c r s l X Y = some (0, 0, 7) := by rw [mapsheetsref43_Height.j0, if_pos rfl]
  unfold mapsheetsref43_Height.f heightS mapsheetsref43_at.f
  rw [ref43_Check_eq x y c r s l hl _ (by omega), Option.bind_some]
  by_cases h : chkS x y c r s l = 0
  case neg => rw [if_neg h, if_neg h]
  rw [if_pos h, if_pos h]
  obtain ⟨hf, hn, hb⟩ := chkS_zero h
  obtain ⟨fx, fy, fc, fr, fs, fX, fY⟩ := hf
  have hf : fits x y c r s := ⟨fx, fy, fc, fr, fs, fX, fY⟩
  have stx := steps_le fc fs
  have sty := steps_le fr fs
  have ex : wrap64 (x + wrap64 (wrap64 (c - 1) * s)) = x + (c - 1) * s := by
    rw [w64 (x := c - 1) (by omega), w64 (x := (c - 1) * s) (by omega)]; exact w64 (by omega)
  have ey : wrap64 (y + wrap64 (wrap64 (r - 1) * s)) = y + (r - 1) * s := by
    rw [w64 (x := r - 1) (by omega), w64 (x := (r - 1) * s) (by omega)]; exact w64 (by omega)
  rw [ex, ey, Option.bind_some]
  dsimp only
  by_cases c1 : X < x
  · rw [if_pos c1, j0t, if_neg (show ¬ reach x y c r s X Y by unfold reach; omega)]
  rw [if_neg c1]
  by_cases c3 : X > x + (c - 1) * s
  · rw [if_pos c3, j0t, if_neg (show ¬ reach x y c r s X Y by unfold reach; omega)]
  rw [if_neg c3]
  by_cases c2 : Y < y
  · rw [if_pos c2, j0t, if_neg (show ¬ reach x y c r s X Y by unfold reach; omega)]
  rw [if_neg c2]
  by_cases c4 : Y > y + (r - 1) * s
  · rw [decide_eq_true c4, j0t, if_neg (show ¬ reach x y c r s X Y by unfold reach; omega)]
  have hr : reach x y c r s X Y := by unfold reach; omega
  rw [decide_eq_false c4, if_pos hr, mapsheetsref43_Height.j0, if_neg (by decide), if_neg (by omega)]
  obtain ⟨eC, C0, C1, u0, u1, CS0, CS1⟩ := cell_ok (X := X) fx fc fs (by omega) fX
  obtain ⟨eR, R0, R1, v0, v1, RS0, RS1⟩ := cell_ok (X := Y) fy fr fs (by omega) fY
  rw [eC, eR]
  unfold numS mapsheetsref43_at.f
  obtain ⟨col, hcol⟩ : ∃ z, z = cellI x s c X := ⟨_, rfl⟩
  obtain ⟨row, hrow⟩ : ∃ z, z = cellI y s r Y := ⟨_, rfl⟩
  rw [← hcol] at C0 C1 u0 u1 CS0 CS1 ⊢
  rw [← hrow] at R0 R1 v0 v1 RS0 RS1 ⊢
  have q1 := cell_lt (c := c) (r := r) (a := col) (b := row) (by omega) (by omega)
  have q2 := cell_lt (c := c) (r := r) (a := col + 1) (b := row + 1) (by omega) (by omega)
  have ar := area_le fc fr
  have e0 : (row + 1) * c = row * c + c := by rw [Int.add_mul, Int.one_mul]
  rw [Option.bind_some]
  dsimp only
  rw [w64 (x := col * s) (by omega), w64 (x := row * s) (by omega), w64 (x := x + col * s) (by omega), w64 (x := y + row * s) (by omega), w64 (x := X - (x + col * s)) (by omega), w64 (x := Y - (y + row * s)) (by omega), w64 (x := row * c) (by omega), w64 (x := row * c + col) (by omega), w64 (x := row * c + col + 1) (by omega), w64 (x := row + 1) (by omega), w64 (x := (row + 1) * c) (by omega), w64 (x := (row + 1) * c + col) (by omega), w64 (x := (row + 1) * c + col + 1) (by omega),
    if_pos (by omega), if_pos (by omega), if_pos (by omega), if_pos (by omega), if_pos (by omega), if_pos (by omega), if_pos (by omega), if_pos (by omega)]
  have ha := hgt_range hf hn hb (a := col) (b := row) (by omega) (by omega)
  have hb1 := hgt_range hf hn hb (a := col + 1) (b := row) (by omega) (by omega)
  have hc1 := hgt_range hf hn hb (a := col) (b := row + 1) (by omega) (by omega)
  have hd1 := hgt_range hf hn hb (a := col + 1) (b := row + 1) (by omega) (by omega)
  rw [show X - (x + col * s) = X - x - col * s by omega, show Y - (y + row * s) = Y - y - row * s by omega]
  have ga : rd l (row * c + col) = hgt l c col row := rfl
  have gb : rd l (row * c + col + 1) = hgt l c (col + 1) row := by unfold hgt; congr 1; omega
  have gc : rd l ((row + 1) * c + col) = hgt l c col (row + 1) := rfl
  have gd : rd l ((row + 1) * c + col + 1) = hgt l c (col + 1) (row + 1) := by unfold hgt; congr 1; omega
  rw [ga, gb, gc, gd]
  obtain ⟨rg, _, _, i1, i2⟩ := interp_range ha hb1 hc1 hd1 ⟨u0, u1⟩ ⟨v0, v1⟩ fs
  have mk := makeS_mid rg fs
  have fin : ∀ n, n = interp s (hgt l c col row) (hgt l c (col + 1) row) (hgt l c col (row + 1)) (hgt l c (col + 1) (row + 1)) (X - x - col * s) (Y - y - row * s) → mapsheetsref43_Height.j1 (k + 1) n x y c r s l = some (makeS n s) := by
    intro n hn'
    rw [← hn'] at rg mk
    rw [mapsheetsref43_Height.j1, ref01_Make_eq (by omega) (by omega) k (by omega), Option.bind_some]
    exact congrArg some (Prod.ext rfl (Prod.ext rfl mk.symm))
  by_cases hu : X - x - col * s ≥ Y - y - row * s
  · rw [if_pos hu, i1 hu, fin _ rfl]
  · rw [if_neg hu, i2 hu, fin _ rfl]
end Go.Proofs.Ytachglfhgcdobaa.PAll
end
section
namespace Go.Proofs.Ytachglfhgcdobaa.Pure
open Go.RowKit Go.Proofs.Ytachglfhgcdobaa.PAll Go.Proofs.YtachglfhgcdobaaW.PrintWords Go.Proofs.YtachglfhgcdobaaW.PrintLast
theorem TerrainHeights : mapsheetslaw43_TerrainHeights.Pure := by
  intro x y c r s l X Y w1 w2 w3 w4 w5 w6 w7 w8 w9
  have hX := i64wf w8
  have hY := i64wf w9
  suffices h : ∀ k, 9223372036854775820 ≤ k → mapsheetslaw43_TerrainHeights.f k x y c r s l X Y = some true from ⟨9223372036854775820, h _ (Nat.le_refl _)⟩
  intro k hk
  unfold mapsheetslaw43_TerrainHeights.f
  rw [light_eq, Option.bind_some]
  by_cases hl' : (l.length : Int) ≤ 4200
  · have hl : l.length ≤ 4200 := by omega
    rw [if_pos (decide_eq_true hl'), terrain_Height_eq x y c r s l hl hX hY k (by omega), Option.bind_some, ref43_Height_eq x y c r s l hl hX hY k (by omega), Option.bind_some, awake_eq k (by omega), Option.bind_some, if_pos rfl, beq_self_eq_true, beq_self_eq_true, beq_self_eq_true, if_pos (by decide)]
  · rw [if_neg (by rw [decide_eq_true_eq]; exact hl'), awake_eq k (by omega), Option.bind_some]
end Go.Proofs.Ytachglfhgcdobaa.Pure
end
section
namespace Go.Proofs.YtachglfhgcdobaaOpen
open Go.RowKit Go.Proofs.YtachglfhgcdobaaW.PrintWords
set_option linter.unusedVariables false
theorem choose_list {α : Type} {Q : Nat → α → Prop} : ∀ n, (∀ i, i < n → ∃ x, Q i x) → ∃ xs : List α, xs.length = n ∧ ∀ (i : Nat) (x : α), xs[i]? = some x → Q i x
  | 0, _ => ⟨[], rfl, fun i x h => by simp at h⟩
  | n + 1, h => by
    obtain ⟨xs, hl, hq⟩ := choose_list n (fun i hi => h i (by omega))
    obtain ⟨x, hx⟩ := h n (by omega)
    refine ⟨xs ++ [x], by simp [hl], fun i y hy => ?_⟩
    rcases Nat.lt_or_ge i xs.length with hlt | hge
    · rw [List.getElem?_append_left hlt] at hy; exact hq i y hy
    · rw [List.getElem?_append_right hge] at hy
      have : i - xs.length = 0 := by
        rcases Nat.eq_zero_or_pos (i - xs.length) with h0 | h0
        · exact h0
        · rw [List.getElem?_eq_none (by simp; omega)] at hy; cases hy
      rw [this] at hy
      simp at hy
      subst hy
      have : i = n := by omega
      subst this
      exact hx
def Opens {α : Type} (P : Program) (t : TypeId) (d : Kd α) (wf : α → Prop) : Prop :=
  ∀ (H : Type) (enc : TypeId × Value → H) (W : World) (fuel : Nat) (cs : List Value) (dd : DataW H) (ps : List MemPlace),
    DataW.trod enc P W 0 (fun _ => true) true fuel t cs = some (dd, ps) → (∀ n ∈ dd.weights P t, n ≤ reachBytes) → ∃ x, d.K W x cs ∧ wf x
section
variable {P : Program} {t : TypeId}
theorem Opens.int {k : IntKind} (hu : P.underlying t = some (.int k)) : Opens P t (Kd.int k) (fun x => (Lit.int k x).wf = true) := by
  intro H enc W fuel cs dd ps h hz
  obtain ⟨n, rfl, _, hw⟩ := DataW.trod_int hu h
  exact ⟨n, rfl, hw⟩
theorem Opens.bool (hu : P.underlying t = some .bool) : Opens P t Kd.bool (fun _ => True) := by
  intro H enc W fuel cs dd ps h hz
  obtain ⟨n, rfl, _⟩ := DataW.trod_bool hu h
  exact ⟨n, rfl, trivial⟩
theorem Opens.iso {α β : Type} {d : Kd α} {wf : α → Prop} (h : Opens P t d wf) (f : β → α) (g : α → β) (hg : ∀ y, f (g y) = y) : Opens P t (Kd.iso d f) (fun x => wf (f x)) := by
  intro H enc W fuel cs dd ps hh hz
  obtain ⟨x, hK, hw⟩ := h H enc W fuel cs dd ps hh hz
  exact ⟨g x, by show d.K W (f (g x)) cs; rw [hg]; exact hK, by show wf (f (g x)); rw [hg]; exact hw⟩
theorem weightsAll_mem {H : Type} {e : TypeId} : ∀ {ds : List (DataW H)} {d : DataW H}, d ∈ ds → ∀ n ∈ d.weights P e, n ∈ DataW.weightsAll P e ds
  | d0 :: ds, d, hd, n, hn => by
    rw [DataW.weightsAll, List.mem_append]
    rcases List.mem_cons.1 hd with rfl | hd
    · exact .inl hn
    · exact .inr (weightsAll_mem hd n hn)
theorem Opens.slice {α : Type} {d : Kd α} {wf : α → Prop} {e : TypeId} {B : Nat} (hu : P.underlying t = some (.slice e)) (h : Opens P e d wf) (hc : P.cellsOf e = d.sz) (hB : P.bytesOf e = B) :
    Opens P t (Kd.slice e d) (fun xs => xs.length * B ≤ 140737488351232 ∧ ∀ x ∈ xs, wf x) := by
  intro H enc W fuel cs dd ps hh hz
  rcases Deep.open_slice hu hh with ⟨rfl, _⟩ | ⟨a, len, cap, m, n, D, Pl, rfl, _, hl, hm, hmm, hx, hel⟩
  · exact ⟨[], ⟨none, 0, rfl, Nat.le_refl _, rfl, by simp, fun h0 => absurd h0 (by simp)⟩, by simp, by simp⟩
  obtain ⟨rfl, _⟩ := Prod.mk.inj hx
  simp only [if_true] at hmm
  subst hmm
  have hw1 : (len + (m - len)) * P.bytesOf e ≤ reachBytes := hz _ (by simp [DataW.weights, hu])
  have key : ∀ i, i < len → ∃ x, wf x ∧ ∃ c, c.length = d.sz ∧ d.K W x c ∧ ∀ j u, c[j]? = some u → W.cell? (a.add (i * d.sz + j)) = some u := by
    intro i hi
    obtain ⟨cs', h1, h2⟩ := hel i (by omega)
    obtain ⟨x, hK, hw⟩ := h H enc W n cs' (D i) (Pl i) h2 (fun n hn => hz n (by
      simp only [DataW.weights, hu, List.mem_cons, List.mem_append]
      exact .inr (.inl (weightsAll_mem (List.mem_map.2 ⟨i, by simpa using hi, rfl⟩) n hn))))
    obtain ⟨_, hlen, hcell⟩ := World.cells?_some h1
    refine ⟨x, hw, cs', by rw [hlen, hc], hK, fun j u hu' => ?_⟩
    have hj : j < P.cellsOf e := by rw [← hlen]; exact (List.getElem?_eq_some_iff.1 hu').1
    have := hcell j hj
    rw [Addr.add_add, hc] at this
    rw [this, hu']
  obtain ⟨xs, hxl, hxs⟩ := choose_list len key
  subst hxl
  refine ⟨xs, ⟨some a, m, rfl, hl, rfl, by unfold maxLen at hm; omega, fun _ => ⟨a, rfl, fun j p hj => (hxs j p hj).2⟩⟩, ?_, ?_⟩
  · rw [hB] at hw1
    exact Nat.le_trans (Nat.mul_le_mul_right _ (by omega)) hw1
  · intro x hx
    obtain ⟨i, hi⟩ := List.getElem?_of_mem hx
    exact (hxs i x hi).1
def OpensP {α : Type} (P : Program) (o : Nat) (L : List (TypeId × Nat)) (e : Nat) (d : Kd α) (wf : α → Prop) : Prop :=
  ∀ (H : Type) (enc : TypeId × Value → H) (W : World) (n : Nat) (cs : List Value) (xs : List (DataW H × List MemPlace)), cs.length = e → xs.length = L.length →
    (∀ (i : Nat) (f : TypeId × Nat), L[i]? = some f → DataW.trod enc P W 0 (fun _ => true) true n f.1 ((cs.drop f.2).take (P.cellsOf f.1)) = xs[i]?) →
    (∀ k ∈ DataW.weightsEach P (L.map (·.1)) (xs.map (·.1)), k ≤ reachBytes) → ∃ x, d.K W x (cs.drop o) ∧ wf x
theorem OpensP.one {α : Type} {d : Kd α} {wf : α → Prop} {o s e : Nat} (h : Opens P t d wf) (hs : P.cellsOf t = s) (he : o + s = e) : OpensP P o [(t, o)] e d wf := by
  subst he hs
  intro H enc W n cs xs hcs hxs hf hz
  have h1 := hf 0 (t, o) rfl
  rw [List.take_of_length_le (by show (cs.drop o).length ≤ P.cellsOf t; rw [List.length_drop]; omega)] at h1
  rw [List.getElem?_eq_getElem (by rw [hxs]; exact Nat.zero_lt_one)] at h1
  match xs, hxs with
  | [x0], _ =>
    exact h H enc W n _ x0.1 x0.2 (by simpa using h1) (fun k hk => hz k (by simp [DataW.weightsEach, hk]))
theorem OpensP.cons {α β : Type} {d : Kd α} {d2 : Kd β} {wf : α → Prop} {wf2 : β → Prop} {o s o2 e : Nat} {L : List (TypeId × Nat)} (h : Opens P t d wf) (hs : P.cellsOf t = s) (he : o + s = o2) (h2 : OpensP P o2 L e d2 wf2) :
    OpensP P o ((t, o) :: L) e (Kd.pair d d2) (fun x => wf x.1 ∧ wf2 x.2) := by
  subst he hs
  intro H enc W n cs xs hcs hxs hf hz
  match xs, hxs with
  | x0 :: xs, hxs =>
    have h1 := hf 0 (t, o) rfl
    obtain ⟨x, hK, hw⟩ := h H enc W n _ x0.1 x0.2 (by simpa using h1) (fun k hk => hz k (by simp [DataW.weightsEach, hk]))
    obtain ⟨y, hK2, hw2⟩ := h2 H enc W n cs xs hcs (by simpa using hxs) (fun i f hi => by simpa using hf (i + 1) f (by simpa using hi)) (fun k hk => hz k (by simp only [List.map_cons, DataW.weightsEach, List.mem_append]; exact .inr hk))
    refine ⟨(x, y), ⟨_, _, ?_, hK, hK2⟩, hw, hw2⟩
    rw [← List.drop_drop, List.take_append_drop]
theorem Opens.struct {α : Type} {d : Kd α} {wf : α → Prop} {fs : Array Field} {L : List (TypeId × Nat)} {e : Nat} (hu : P.underlying t = some (.struct fs)) (hL : fs.toList.map (fun f => (f.type, f.offset)) = L) (hc : P.cellsOf t = e) (h : OpensP P 0 L e d wf) : Opens P t d wf := by
  intro H enc W fuel cs dd ps hh hz
  obtain ⟨xs, n, rfl, hx, hcs, hxs, hf⟩ := DataW.trod_struct hu hh
  obtain ⟨rfl, _⟩ := Prod.mk.inj hx
  subst hL
  obtain ⟨x, hK, hw⟩ := h H enc W n cs xs (by rw [hcs, hc]) (by simpa using hxs) (fun i f hi => by
    rw [List.getElem?_map, Option.map_eq_some_iff] at hi
    obtain ⟨g, hg, rfl⟩ := hi
    exact hf i g (by simpa using hg)) (fun k hk => hz k (by
      simp only [DataW.weights, hu]
      rw [List.map_map] at hk
      exact hk))
  exact ⟨x, by simpa using hK, hw⟩
theorem okWide_agg_struct {W : World} {r : Reach} {base : Nat} {v : Value} {fs : Array Field} (hu : P.underlying t = some (.struct fs)) (h : Value.okWide P W r base t v) : ∃ cs, v = .agg cs := by
  unfold Value.okWide at h
  rw [hu] at h
  obtain ⟨cs, h, _⟩ := h
  exact ⟨cs, h⟩
theorem weightsEach_rep {H : Type} {e : TypeId} : ∀ (ds : List (DataW H)), DataW.weightsEach P (List.replicate ds.length e) ds = DataW.weightsAll P e ds
  | [] => by simp [DataW.weightsEach, DataW.weightsAll]
  | d :: ds => by rw [List.length_cons, List.replicate_succ, DataW.weightsEach, DataW.weightsAll, weightsEach_rep ds]
theorem Opens.array {α : Type} {d : Kd α} {wf : α → Prop} {n : Nat} {e : TypeId} {L : List (TypeId × Nat)} {z : Nat} (hu : P.underlying t = some (.array n e)) (hL : (List.range n).map (fun i => (e, i * P.cellsOf e)) = L) (hc : P.cellsOf t = z) (h : OpensP P 0 L z d wf) : Opens P t d wf := by
  intro H enc W fuel cs dd ps hh hz
  obtain ⟨xs, m, rfl, hx, hcs, hxs, hf⟩ := DataW.trod_array hu hh
  obtain ⟨rfl, _⟩ := Prod.mk.inj hx
  subst hL
  obtain ⟨x, hK, hw⟩ := h H enc W m cs xs (by rw [hcs, hc]) (by simpa using hxs) (fun i f hi => by
    rw [List.getElem?_map, Option.map_eq_some_iff] at hi
    obtain ⟨g, hg, rfl⟩ := hi
    obtain ⟨hlt, hg⟩ := List.getElem?_eq_some_iff.1 hg
    simp at hg hlt
    subst hg
    exact hf i hlt) (fun k hk => hz k (by
      simp only [DataW.weights, hu]
      rw [List.map_map] at hk
      rw [← weightsEach_rep]
      have : List.map ((fun x => x.1) ∘ fun i => (e, i * P.cellsOf e)) (List.range n) = List.replicate (xs.map (·.1)).length e := by
        rw [List.length_map, hxs]
        apply List.ext_getElem
        · simp
        · intro i h1 h2; simp
      rw [this] at hk
      exact hk))
  exact ⟨x, by simpa using hK, hw⟩
end
end Go.Proofs.YtachglfhgcdobaaOpen
end
section
namespace Go.Proofs.Ytachglfhgcdobaa.terrainHeights
open Go.ChangeShapes Go.WideShapes Go.ChangeAt Go.RowKit Go.Proofs.YtachglfhgcdobaaOpen Go.Proofs.Ytachglfhgcdobaa.PAll Go.Proofs.YtachglfhgcdobaaW.PrintWords Go.Proofs.YtachglfhgcdobaaW.PrintLast
open Go.ChangeMaps (open_string shut_string)
set_option linter.unusedVariables false
theorem own : ownKnob Try.prog.godebug = none := by kernel_rfl
theorem laidOut : laidOutB Try.prog = true := by kernel_rfl
theorem opens23 : Opens Try.prog 23 k23 wf23 := Opens.iso (Opens.struct (L := [(3, 0), (3, 1)]) (e := 2) Try.underlying23 (by first | rfl | kernel_rfl) (by kernel_rfl) (OpensP.cons (o := 0) (s := 1) (o2 := 1) (Opens.int Try.underlying3) (by kernel_rfl) rfl (OpensP.one (o := 1) (s := 1) (e := 2) (Opens.int Try.underlying3) (by kernel_rfl) rfl))) (fun x : S23 => (x.f0, x.f1)) (fun y => (⟨y.1, y.2⟩ : S23)) (fun _ => rfl)
theorem opens26 : Opens Try.prog 26 k26 wf26 := Opens.iso (Opens.struct (L := [(23, 0), (3, 2), (3, 3), (3, 4), (24, 5)]) (e := 6) Try.underlying26 (by first | rfl | kernel_rfl) (by kernel_rfl) (OpensP.cons (o := 0) (s := 2) (o2 := 2) opens23 (by kernel_rfl) rfl (OpensP.cons (o := 2) (s := 1) (o2 := 3) (Opens.int Try.underlying3) (by kernel_rfl) rfl (OpensP.cons (o := 3) (s := 1) (o2 := 4) (Opens.int Try.underlying3) (by kernel_rfl) rfl (OpensP.cons (o := 4) (s := 1) (o2 := 5) (Opens.int Try.underlying3) (by kernel_rfl) rfl (OpensP.one (o := 5) (s := 1) (e := 6) (Opens.slice (B := 8) Try.underlying24 (Opens.int Try.underlying3) (by kernel_rfl) (by kernel_rfl)) (by kernel_rfl) rfl)))))) (fun x : S26 => (x.f0, x.f1, x.f2, x.f3, x.f4)) (fun y => (⟨y.1, y.2.1, y.2.2.1, y.2.2.2.1, y.2.2.2.2⟩ : S26)) (fun _ => rfl)
set_option maxRecDepth 100000 in
theorem lifted (os : Os) (started : os.Started) (H : Type) (enc : TypeId × Value → H) :
    ReturnsInHanded {} Try.checked os 4 .any (Rows.terrainHeightsSpec.pre6 enc Try.prog Try.f4 Rows.terrainHeightsRow.domain false) (Rows.terrainHeightsSpec.post enc Try.prog Try.f4 false true false false) := by
  refine returnsInHanded_of_change_sized (C := Try.checked) own started (by kernel_rfl) Try.func4
    (ChangeSpec.witness6 (enc := enc) (C := Try.checked) false ⟨#[], #[.agg #[.int .i64 0, .int .i64 0, .int .i64 0, .int .i64 0, .int .i64 0, .slice none 0 0], .agg #[.int .i64 0, .int .i64 0]], []⟩ 8 (by kernel_rfl) (by kernel_rfl) (by kernel_rfl) (by kernel_rfl)) ?_
  intro W base args ds gs before hval0 hW hcnd hsz0 _
  have hsz : (DataW.weightsEach Try.prog (Try.f4.params.toList ++ Rows.terrainHeightsSpec.plain.varTypes Try.prog) (ds ++ gs)).all (· ≤ reachBytes) = true := hsz0
  have hval : ∀ (j : Nat) t v, Try.f4.params[j]? = some t → args[j]? = some v → Value.okWide Try.prog W .any base t v := hval0
  have hW' := hW
  obtain ⟨p, q, hA0, hV, rfl, hfz, hnd⟩ := hW
  have hA : DataW.TrodAll enc Try.prog W 0 (fun _ => true) true Try.f4.params.toList args.toList ds p := hA0
  rw [Try.params4] at hA hval hsz
  obtain ⟨v0, vs0, d0, ds0, p0, q0, hargs, rfl, rfl, h0, r0⟩ := trodAll_cons hA
  obtain ⟨v1, vs1, d1, ds1, p1, q1, rfl, rfl, rfl, h1, r1⟩ := trodAll_cons r0
  obtain ⟨rfl, rfl, rfl⟩ := trodAll_nil r1
  obtain rfl : args = #[v0, v1] := by cases args; simp_all
  obtain ⟨rfl, rfl⟩ := trodVars_none hV
  have k0 := h0
  have lt0 : ∀ x ∈ p0, x.block < W.heap.size := by obtain ⟨m, hm⟩ := k0; exact DataW.trod_lt m _ _ _ hm
  have z0 : ∀ n ∈ d0.weights Try.prog 26, n ≤ reachBytes := fun n hn => by have := List.all_eq_true.1 hsz _ (DataW.weights_mem_each (j := 0) rfl rfl n hn); simpa using this
  obtain ⟨cs0, rfl⟩ := okWide_agg_struct Try.underlying26 (hval 0 26 v0 rfl rfl)
  obtain ⟨fu0, hf0⟩ := h0
  obtain ⟨x0, hK0, hw0⟩ := opens26 _ enc W fu0 _ _ _ hf0 z0
  have o0 := k26_open hK0
  obtain ⟨A0_5, c0_5, e0, hl0_5, hC0_5⟩ := o0
  have e0' : cs0 = #[.int .i64 x0.f0.f0, .int .i64 x0.f0.f1, .int .i64 x0.f1, .int .i64 x0.f2, .int .i64 x0.f3, .slice A0_5 x0.f4.length c0_5] := by apply Array.toList_inj.1; exact e0
  subst e0'
  obtain ⟨⟨hw0_0_0, hw0_0_1⟩, hw0_1, hw0_2, hw0_3, hw0_4⟩ := hw0
  have k1 := h1
  have lt1 : ∀ x ∈ p1, x.block < W.heap.size := by obtain ⟨m, hm⟩ := k1; exact DataW.trod_lt m _ _ _ hm
  have z1 : ∀ n ∈ d1.weights Try.prog 23, n ≤ reachBytes := fun n hn => by have := List.all_eq_true.1 hsz _ (DataW.weights_mem_each (j := 1) rfl rfl n hn); simpa using this
  obtain ⟨cs1, rfl⟩ := okWide_agg_struct Try.underlying23 (hval 1 23 v1 rfl rfl)
  obtain ⟨fu1, hf1⟩ := h1
  obtain ⟨x1, hK1, hw1⟩ := opens23 _ enc W fu1 _ _ _ hf1 z1
  have o1 := k23_open hK1
  have e1 := o1
  have e1' : cs1 = #[.int .i64 x1.f0, .int .i64 x1.f1] := by apply Array.toList_inj.1; exact e1
  subst e1'
  obtain ⟨hw1_0, hw1_1⟩ := hw1
  clear hA0 hval0 hsz0 hsz
  obtain ⟨k, hk⟩ := Pure.TerrainHeights x0.f0.f0 x0.f0.f1 x0.f1 x0.f2 x0.f3 x0.f4 x1.f0 x1.f1 hw0_0_0 hw0_0_1 hw0_1 hw0_2 hw0_3 hw0_4.1 hw0_4.2 hw1_0 hw1_1
  refine (mapsheetslaw43_TerrainHeights.calls k x0.f0.f0 x0.f0.f1 x0.f1 x0.f2 x0.f3 _ _ x0.f4 x1.f0 x1.f1 true W hC0_5 hl0_5 hk).mono fun e W' ⟨he, bel0⟩ => ?_
  have bel : Below W.heap.size W W' := bel0
  subst he
  exact ⟨_, rfl, _, _, _, [], _, [], hW', trodAll_mk1 (shut_bool Try.underlying4 _), (trodAll_cons_mk (Below.trod laidOut (by kernel_rfl) (of_decide_eq_true (by kernel_rfl)) k0 bel lt0) (trodAll_cons_mk (Below.trod laidOut (by kernel_rfl) (of_decide_eq_true (by kernel_rfl)) k1 bel lt1) trodAll_mk0)), rfl, bel.frame _, fun h => by cases h⟩
theorem over : Rows.terrainHeightsRow.holds Try.pinned (OpenSpec.ofChange Rows.terrainHeightsSpec) :=
  OpenClaim.holds_of_wide 4 Try.f4 rfl rfl rfl rfl rfl rfl rfl ⟨rfl, rfl, rfl, rfl, rfl⟩ rfl rfl rfl rfl rfl (by kernel_rfl) Try.func4 (by kernel_rfl)
    (of_decide_eq_true (by kernel_rfl)) (by unfold Func.isWrapper; first | (rw [if_pos (by decide +kernel)]; kernel_rfl) | (rw [if_neg (by decide +kernel)]; exact ⟨rfl, rfl⟩))
    (fun os started H enc _ => lifted os started H enc)
theorem proved : Rows.TerrainHeightsSaid := over
#print axioms proved
end Go.Proofs.Ytachglfhgcdobaa.terrainHeights
namespace Go.Proofs.Ytachglfhgcdobaa
theorem terrainHeights_holds : Rows.TerrainHeightsSaid := terrainHeights.proved
end Go.Proofs.Ytachglfhgcdobaa
end
