/- The row of the law TerrainRises: for every input that can be read the call returns true, and each argument reads as it did. No condition. -/
import Derived.SizedLaws
import Derived.DataElems
import Derived.Deep.Slices
import Derived.OpenShut
import Derived.Test.YtachglfhgcdobaaRows
import Derived.WalkKit
import Derived.ProofKit
import Derived.ShutString
import Derived.ChangeOld
import Derived.Below
import Derived.Test.YtachglfhgcdobaaQTerrainRises3
section
namespace Go.Proofs.Ytachglfhgcdobaa.PAll
open Go.RowKit Go.Proofs.YtachglfhgcdobaaW.PrintWords Go.Proofs.YtachglfhgcdobaaW.PrintLast Go.Proofs.YtachglfhgcdobaaW.PrintMore
attribute [local go_sem] max2_int min2_int max_two min_two max_three min_three max_four min_four
set_option linter.unusedVariables false
set_option linter.unusedSimpArgs false
mutual
def mapsheetslaw43_TerrainRises.l0 : Nat → Int → Int → Int → Int → Int → Int → Int → List Int → Int → Int → Int → Int → Int → Int → Int → List Int → Option (Bool)
  | 0, _, _, _, _, _, _, _, _, _, _, _, _, _, _, _, _ => none
  | k + 1, x1, x8, x350000, x350001, x350002, x350003, x350004, x350005, x351000, x351001, x354000, x354001, x354002, x354003, x354004, x354005 => if x8 < (x350005.length : Int) then (if 0 ≤ x8 then (if x354005.length < 17592186044416 then (mapsheetslaw43_TerrainRises.l0 k x1 (wrap64 (x8 + 1)) x350000 x350001 x350002 x350003 x350004 x350005 x351000 x351001 x354000 x354001 x354002 x354003 x354004 (x354005 ++ [wrap64 ((rd x350005 x8) + (wrap64 (x1)))])) else (none)) else (none)) else ((terrain_Check.f k x350000 x350001 x350002 x350003 x350004 x350005).bind fun t358 => (if t358 = 0 then ((terrain_Check.f k x354000 x354001 x354002 x354003 x354004 x354005).bind fun t359 => (mapsheetslaw43_TerrainRises.j1 k x1 (t359 != 0) x350000 x350001 x350002 x350003 x350004 x350005 x351000 x351001 x354000 x354001 x354002 x354003 x354004 x354005)) else (mapsheetslaw43_TerrainRises.j1 k x1 true x350000 x350001 x350002 x350003 x350004 x350005 x351000 x351001 x354000 x354001 x354002 x354003 x354004 x354005)))
def mapsheetslaw43_TerrainRises.j1 : Nat → Int → Bool → Int → Int → Int → Int → Int → List Int → Int → Int → Int → Int → Int → Int → Int → List Int → Option (Bool)
  | 0, _, _, _, _, _, _, _, _, _, _, _, _, _, _, _, _ => none
  | k + 1, x1, x50, x350000, x350001, x350002, x350003, x350004, x350005, x351000, x351001, x354000, x354001, x354002, x354003, x354004, x354005 => if x50 = true then ((mapsheetslaw43_awake.f k).bind fun t360 => (some t360)) else ((terrain_Height.f k x350000 x350001 x350002 x350003 x350004 x350005 x351000 x351001).bind fun bt361 => ((terrain_Height.f k x354000 x354001 x354002 x354003 x354004 x354005 x351000 x351001).bind fun bt365 => ((terrain_Peaks.f k x350000 x350001 x350002 x350003 x350004 x350005).bind fun bt369 => ((terrain_Peaks.f k x354000 x354001 x354002 x354003 x354004 x354005).bind fun bt373 => ((mapsheetslaw43_awake.f k).bind fun t377 => (if t377 = true then (if bt361.2.2 = bt365.2.2 then (if bt365.2.1 = bt361.2.1 then (if bt365.1 = (wrap64 (bt361.1 + (wrap64 ((wrap64 (x1)) * bt361.2.1)))) then ((mapsheetsref43_Same.f k bt369.1 bt373.1).bind fun t378 => (if t378 = true then (if bt369.2 = 0 then (some (bt373.2 == 0)) else (none)) else (none))) else (none)) else (none)) else (none)) else (none)))))))
end
def mapsheetslaw43_TerrainRises.f (k : Nat) (a0_0 : Int) (a0_1 : Int) (a0_2 : Int) (a0_3 : Int) (a0_4 : Int) (l0_5 : List Int) (a1 : Int) (a2_0 : Int) (a2_1 : Int) : Option (Bool) := (mapsheetslaw43_light.f a0_0 a0_1 a0_2 a0_3 a0_4 l0_5).bind fun t351 => (if t351 = true then (mapsheetslaw43_TerrainRises.l0 k a1 0 a0_0 a0_1 a0_2 a0_3 a0_4 l0_5 a2_0 a2_1 a0_0 a0_1 a0_2 a0_3 a0_4 ([] : List Int)) else ((mapsheetslaw43_awake.f k).bind fun t352 => (some t352)))
theorem mapsheetslaw43_TerrainRises.mono_l : ∀ k, (∀ y0 y1 y2 y3 y4 y5 y6 y7 y8 y9 y10 y11 y12 y13 y14 y15, LeO (mapsheetslaw43_TerrainRises.l0 k y0 y1 y2 y3 y4 y5 y6 y7 y8 y9 y10 y11 y12 y13 y14 y15) (mapsheetslaw43_TerrainRises.l0 (k + 1) y0 y1 y2 y3 y4 y5 y6 y7 y8 y9 y10 y11 y12 y13 y14 y15)) ∧ (∀ y0 y1 y2 y3 y4 y5 y6 y7 y8 y9 y10 y11 y12 y13 y14 y15, LeO (mapsheetslaw43_TerrainRises.j1 k y0 y1 y2 y3 y4 y5 y6 y7 y8 y9 y10 y11 y12 y13 y14 y15) (mapsheetslaw43_TerrainRises.j1 (k + 1) y0 y1 y2 y3 y4 y5 y6 y7 y8 y9 y10 y11 y12 y13 y14 y15))
  | 0 => ⟨fun _ _ _ _ _ _ _ _ _ _ _ _ _ _ _ _ r h => by simp [mapsheetslaw43_TerrainRises.l0] at h, fun _ _ _ _ _ _ _ _ _ _ _ _ _ _ _ _ r h => by simp [mapsheetslaw43_TerrainRises.j1] at h⟩
  | k + 1 => by
    obtain ⟨ih0, ih1⟩ := mapsheetslaw43_TerrainRises.mono_l k
    refine ⟨?_, ?_⟩
    · intro y0 y1 y2 y3 y4 y5 y6 y7 y8 y9 y10 y11 y12 y13 y14 y15
      unfold mapsheetslaw43_TerrainRises.l0
      repeat' first
      | (with_reducible exact ih0 _ _ _ _ _ _ _ _ _ _ _ _ _ _ _ _)
      | (with_reducible exact ih1 _ _ _ _ _ _ _ _ _ _ _ _ _ _ _ _)
      | (with_reducible exact mapsheetslaw43_awake.mono _)
      | (with_reducible exact mapsheetsref43_Same.mono _ _ _)
      | (with_reducible exact terrain_Check.mono _ _ _ _ _ _ _)
      | (with_reducible exact terrain_Height.mono _ _ _ _ _ _ _ _ _)
      | (with_reducible exact terrain_Peaks.mono _ _ _ _ _ _ _)
      | (with_reducible exact LeO.refl _)
      | (with_reducible exact LeO.none _)
      | (with_reducible refine LeO.ite ?_ ?_)
      | (with_reducible refine LeO.bind ?_ (fun _ => ?_))
      | exact ih0 _ _ _ _ _ _ _ _ _ _ _ _ _ _ _ _
      | exact ih1 _ _ _ _ _ _ _ _ _ _ _ _ _ _ _ _
      | exact mapsheetslaw43_awake.mono _
      | exact mapsheetsref43_Same.mono _ _ _
      | exact terrain_Check.mono _ _ _ _ _ _ _
      | exact terrain_Height.mono _ _ _ _ _ _ _ _ _
      | exact terrain_Peaks.mono _ _ _ _ _ _ _
      | exact LeO.none _
      | refine LeO.ite ?_ ?_
      | refine LeO.bind ?_ (fun _ => ?_)
    · intro y0 y1 y2 y3 y4 y5 y6 y7 y8 y9 y10 y11 y12 y13 y14 y15
      unfold mapsheetslaw43_TerrainRises.j1
      repeat' first
      | (with_reducible exact ih0 _ _ _ _ _ _ _ _ _ _ _ _ _ _ _ _)
      | (with_reducible exact ih1 _ _ _ _ _ _ _ _ _ _ _ _ _ _ _ _)
      | (with_reducible exact mapsheetslaw43_awake.mono _)
      | (with_reducible exact mapsheetsref43_Same.mono _ _ _)
      | (with_reducible exact terrain_Check.mono _ _ _ _ _ _ _)
      | (with_reducible exact terrain_Height.mono _ _ _ _ _ _ _ _ _)
      | (with_reducible exact terrain_Peaks.mono _ _ _ _ _ _ _)
      | (with_reducible exact LeO.refl _)
      | (with_reducible exact LeO.none _)
      | (with_reducible refine LeO.ite ?_ ?_)
      | (with_reducible refine LeO.bind ?_ (fun _ => ?_))
      | exact ih0 _ _ _ _ _ _ _ _ _ _ _ _ _ _ _ _
      | exact ih1 _ _ _ _ _ _ _ _ _ _ _ _ _ _ _ _
      | exact mapsheetslaw43_awake.mono _
      | exact mapsheetsref43_Same.mono _ _ _
      | exact terrain_Check.mono _ _ _ _ _ _ _
      | exact terrain_Height.mono _ _ _ _ _ _ _ _ _
      | exact terrain_Peaks.mono _ _ _ _ _ _ _
      | exact LeO.none _
      | refine LeO.ite ?_ ?_
      | refine LeO.bind ?_ (fun _ => ?_)
theorem mapsheetslaw43_TerrainRises.mono : ∀ a0 a1 a2 a3 a4 a5 a6 a7 a8 k, LeO (mapsheetslaw43_TerrainRises.f k a0 a1 a2 a3 a4 a5 a6 a7 a8) (mapsheetslaw43_TerrainRises.f (k + 1) a0 a1 a2 a3 a4 a5 a6 a7 a8) := by
  intro a0 a1 a2 a3 a4 a5 a6 a7 a8 k
  obtain ⟨ih0, ih1⟩ := mapsheetslaw43_TerrainRises.mono_l k
  unfold mapsheetslaw43_TerrainRises.f
  repeat' first
      | (with_reducible exact ih0 _ _ _ _ _ _ _ _ _ _ _ _ _ _ _ _)
      | (with_reducible exact ih1 _ _ _ _ _ _ _ _ _ _ _ _ _ _ _ _)
      | (with_reducible exact mapsheetslaw43_awake.mono _)
      | (with_reducible exact mapsheetsref43_Same.mono _ _ _)
      | (with_reducible exact terrain_Check.mono _ _ _ _ _ _ _)
      | (with_reducible exact terrain_Height.mono _ _ _ _ _ _ _ _ _)
      | (with_reducible exact terrain_Peaks.mono _ _ _ _ _ _ _)
      | (with_reducible exact LeO.refl _)
      | (with_reducible exact LeO.none _)
      | (with_reducible refine LeO.ite ?_ ?_)
      | (with_reducible refine LeO.bind ?_ (fun _ => ?_))
      | exact ih0 _ _ _ _ _ _ _ _ _ _ _ _ _ _ _ _
      | exact ih1 _ _ _ _ _ _ _ _ _ _ _ _ _ _ _ _
      | exact mapsheetslaw43_awake.mono _
      | exact mapsheetsref43_Same.mono _ _ _
      | exact terrain_Check.mono _ _ _ _ _ _ _
      | exact terrain_Height.mono _ _ _ _ _ _ _ _ _
      | exact terrain_Peaks.mono _ _ _ _ _ _ _
      | exact LeO.none _
      | refine LeO.ite ?_ ?_
      | refine LeO.bind ?_ (fun _ => ?_)
def mapsheetslaw43_TerrainRises.T8 : Bool × List (List Nat × List Nat) := (true, [([], []), ([0], [0]), ([], []), ([2], [2]), ([], []), ([3, 4], [3, 4]), ([5], [5]), ([], []), ([7], [7]), ([6, 8], [6, 8]), ([9], [9]), ([1, 10], [1, 10]), ([0, 1, 2, 3, 4, 5, 6, 7, 8, 9, 10, 11], []), ([12, 11, 11, 0, 1, 2, 3, 4, 5, 6, 7, 8, 9, 10, 11], [11, 12])])
def mapsheetslaw43_TerrainRises.B8 : List Nat := [0, 1, 0, 4, 0, 28, 60, 0, 128, 508, 1020, 2047, 4095, 8191]
theorem mapsheetslaw43_TerrainRises.tab8 : rtab .any (opsOf Try.f6 8) = mapsheetslaw43_TerrainRises.T8 := by kernel_rfl
theorem mapsheetslaw43_TerrainRises.bits8 : waitsOk mapsheetslaw43_TerrainRises.T8.2 mapsheetslaw43_TerrainRises.B8 = true := by kernel_rfl
set_option maxHeartbeats 8000000 in
set_option maxRecDepth 100000 in
theorem mapsheetslaw43_TerrainRises.calls (k : Nat) (a0_0 : Int) (a0_1 : Int) (a0_2 : Int) (a0_3 : Int) (a0_4 : Int) (A0_5 : Option Addr) (c0_5 : Nat) (l0_5 : List Int) (a1 : Int) (a2_0 : Int) (a2_1 : Int) (r : Bool) (w : World) (hr0_5 : Kd.C (Kd.int .i64) w A0_5 l0_5.length l0_5) (hc0_5 : l0_5.length ≤ c0_5) (h : mapsheetslaw43_TerrainRises.f k a0_0 a0_1 a0_2 a0_3 a0_4 l0_5 a1 a2_0 a2_1 = some r) :
    Calls Try.prog 6 #[.agg #[.int .i64 a0_0, .int .i64 a0_1, .int .i64 a0_2, .int .i64 a0_3, .int .i64 a0_4, .slice A0_5 l0_5.length c0_5], .int .i16 a1, .agg #[.int .i64 a2_0, .int .i64 a2_1]] w fun e w' => e = .returned (.bool r) ∧ Below w.heap.size w w' := by
 have hu26 := Try.underlying26
 have hu23 := Try.underlying23
 have hu37 := Try.underlying37
 have HR0_5 := Aside0.mk hr0_5
 have HC0_5 := Aside0.mk hc0_5
 clear hr0_5 hc0_5
 have HB := Aside0.mk (Below.refl w.heap.size w)
 have H : ((mapsheetslaw43_light.f a0_0 a0_1 a0_2 a0_3 a0_4 l0_5).bind fun t351 => (if t351 = true then (mapsheetslaw43_TerrainRises.l0 k a1 0 a0_0 a0_1 a0_2 a0_3 a0_4 l0_5 a2_0 a2_1 a0_0 a0_1 a0_2 a0_3 a0_4 ([] : List Int)) else ((mapsheetslaw43_awake.f k).bind fun t352 => (some t352)))) = some r := h
 clear h
 replace H := Option.bind_eq_some_iff.mp H
 obtain ⟨t351, A40, H⟩ := H
 replace H : (if t351 = true then (mapsheetslaw43_TerrainRises.l0 k a1 0 a0_0 a0_1 a0_2 a0_3 a0_4 l0_5 a2_0 a2_1 a0_0 a0_1 a0_2 a0_3 a0_4 ([] : List Int)) else ((mapsheetslaw43_awake.f k).bind fun t352 => (some t352))) = some r := H
 have A4 := Aside0.mk A40
 clear A40
 by_cases c5 : t351 = true
 ·subst c5
  have H1 : (mapsheetslaw43_TerrainRises.l0 k a1 0 a0_0 a0_1 a0_2 a0_3 a0_4 l0_5 a2_0 a2_1 a0_0 a0_1 a0_2 a0_3 a0_4 ([] : List Int)) = some r := by rw [if_pos rfl] at H; exact H
  clear H
  have H := H1
  clear H1
  have H' := Aside0.mk H
  clear H
  go_enter Try.func6, Try.ntmps6
  go_wp2_with (first | ((with_reducible refine gate_dst (N := 3) rfl ?_); refine box_event ?hg (N := 3) ?hd (cs := #[.int .i64 a0_0, .int .i64 a0_1, .int .i64 a0_2, .int .i64 a0_3, .int .i64 a0_4, .slice A0_5 l0_5.length c0_5]) (t := 26) ?hr ?_; (case hd => rfl); (case hg => rfl); (case hr => first | (go_simp; done) | (go_simp; rfl)); intro gb349 hg w6 hbox hb; have n0_ := Aside0.mk (below_step (by repeat (first | (with_reducible first | exact HB.out | apply below_alloc | apply pw_below_drewN | apply below_drew1) | exact HB.out)) hb); have n1_ := Aside0.mk (hbox); have n2_ := Aside0.mk ((by rw [hg]; exact (below_size (by repeat (first | (with_reducible first | exact HB.out | apply below_alloc | apply pw_below_drewN | apply below_drew1) | exact HB.out))) : w.heap.size ≤ gb349)); have n3_ := Aside0.mk ((by rw [hg]; exact (below_size (by repeat (first | (with_reducible first | exact HB.out | apply below_alloc | apply pw_below_drewN | apply below_drew1) | exact HB.out))) : w.heap.size ≤ gb349)); clear HB; have HB := n0_; have BK349 := n1_; have GW349 := n2_; have GE349 := n3_; clear n0_ n1_ n2_ n3_; clear hb hbox hg) | ((with_reducible refine gate_dst (N := 5) rfl ?_); refine box_event ?hg (N := 5) ?hd (cs := #[.int .i64 a2_0, .int .i64 a2_1]) (t := 23) ?hr ?_; (case hd => rfl); (case hg => rfl); (case hr => first | (go_simp; done) | (go_simp; rfl)); intro gb350 hg w7 hbox hb; have n0_ := Aside0.mk (blk_below (g := gb349) (o := .cells #[.int .i64 a0_0, .int .i64 a0_1, .int .i64 a0_2, .int .i64 a0_3, .int .i64 a0_4, .slice A0_5 l0_5.length c0_5] 26 (0, 0)) (by (with_reducible repeat (first | refine blk_drewN ?_ _ | refine blk_drew ?_ | refine blk_alloc ?_ _)); exact BK349.out) hb); have n1_ := Aside0.mk (below_step (by repeat (first | (with_reducible first | exact HB.out | apply below_alloc | apply pw_below_drewN | apply below_drew1 | refine below_set ?_ GE349.out) | exact HB.out)) hb); have n2_ := Aside0.mk (hbox); have n3_ := Aside0.mk ((by rw [hg]; exact (below_size (by repeat (first | (with_reducible first | exact HB.out | apply below_alloc | apply pw_below_drewN | apply below_drew1 | refine below_set ?_ GE349.out) | exact HB.out))) : w.heap.size ≤ gb350)); have n4_ := Aside0.mk ((by rw [hg]; exact (below_size (by repeat (first | (with_reducible first | exact HB.out | apply below_alloc | apply pw_below_drewN | apply below_drew1 | refine below_set ?_ GE349.out) | exact HB.out))) : w.heap.size ≤ gb350)); have n5_ := Aside0.mk ((by rw [hg]; exact Nat.ne_of_lt (blk_lt (g := gb349) (o := .cells #[.int .i64 a0_0, .int .i64 a0_1, .int .i64 a0_2, .int .i64 a0_3, .int .i64 a0_4, .slice A0_5 l0_5.length c0_5] 26 (0, 0)) (by (with_reducible repeat (first | refine blk_drewN ?_ _ | refine blk_drew ?_ | refine blk_alloc ?_ _)); exact BK349.out)) : gb349 ≠ gb350)); have n6_ := Aside0.mk ((by rw [hg]; exact Nat.ne_of_gt (blk_lt (g := gb349) (o := .cells #[.int .i64 a0_0, .int .i64 a0_1, .int .i64 a0_2, .int .i64 a0_3, .int .i64 a0_4, .slice A0_5 l0_5.length c0_5] 26 (0, 0)) (by (with_reducible repeat (first | refine blk_drewN ?_ _ | refine blk_drew ?_ | refine blk_alloc ?_ _)); exact BK349.out)) : gb350 ≠ gb349)); clear BK349; clear HB; have BK349 := n0_; have HB := n1_; have BK350 := n2_; have GW350 := n3_; have GE350 := n4_; have NB349_350 := n5_; have NB350_349 := n6_; clear n0_ n1_ n2_ n3_ n4_ n5_ n6_; clear hb hbox hg; have hnb8 := NB349_350.out; have hnc8 := NB350_349.out; have hcz9_0 : w7.cell? ⟨gb349, 0, none⟩ = some (.int .i64 a0_0) := (blk_cell BK349.out 0).trans rfl; have hcz9_1 : w7.cell? ⟨gb349, 1, none⟩ = some (.int .i64 a0_1) := (blk_cell BK349.out 1).trans rfl; have hcz9_2 : w7.cell? ⟨gb349, 2, none⟩ = some (.int .i64 a0_2) := (blk_cell BK349.out 2).trans rfl; have hcz9_3 : w7.cell? ⟨gb349, 3, none⟩ = some (.int .i64 a0_3) := (blk_cell BK349.out 3).trans rfl; have hcz9_4 : w7.cell? ⟨gb349, 4, none⟩ = some (.int .i64 a0_4) := (blk_cell BK349.out 4).trans rfl; have hcz9_5 : w7.cell? ⟨gb349, 5, none⟩ = some (.slice A0_5 l0_5.length c0_5) := (blk_cell BK349.out 5).trans rfl; have hfz9_0 := blk_frozen BK349.out 0; have hfz9_1 := blk_frozen BK349.out 1; have hfz9_2 := blk_frozen BK349.out 2; have hfz9_3 := blk_frozen BK349.out 3; have hfz9_4 := blk_frozen BK349.out 4; have hfz9_5 := blk_frozen BK349.out 5) | ((with_reducible refine gate_callee (f := 9) rfl ?_); refine goesL_ (some 18) rfl rfl Try.func9 (by kernel_rfl) rfl #[.agg #[.int .i64 a0_0, .int .i64 a0_1, .int .i64 a0_2, .int .i64 a0_3, .int .i64 a0_4, .slice A0_5 l0_5.length c0_5]] rfl (by (try simp only [List.map_toArray, List.map_cons, List.map_nil]); first | done | rfl | (simp only [List.length_drop, List.length_take]; rfl)) ?_; (with_reducible refine (mapsheetslaw43_light.calls a0_0 a0_1 a0_2 a0_3 a0_4 _ _ l0_5 true _ ?side1 ?side2 A4.out).mono ?_); (case side1 => repeat (first | exact (Kd.C_below HR0_5.out HB.out) | (with_reducible refine Kd.C_alloc ?_ _) | (with_reducible refine Kd.C_drewN ?_ _) | (with_reducible refine Kd.C_drew ?_))); (case side2 => exact HC0_5.out); rintro e w10 ⟨rfl, hb⟩; refine ⟨_, rfl, ?_⟩; have n0_ := Aside0.mk (blk_below (g := gb349) (o := .cells #[.int .i64 a0_0, .int .i64 a0_1, .int .i64 a0_2, .int .i64 a0_3, .int .i64 a0_4, .slice A0_5 l0_5.length c0_5] 26 (0, 0)) (by (with_reducible repeat (first | refine blk_drewN ?_ _ | refine blk_drew ?_ | refine blk_alloc ?_ _)); exact BK349.out) hb); have n1_ := Aside0.mk (blk_below (g := gb350) (o := .cells #[.int .i64 a2_0, .int .i64 a2_1] 23 (0, 0)) (by (with_reducible repeat (first | refine blk_drewN ?_ _ | refine blk_drew ?_ | refine blk_alloc ?_ _)); exact BK350.out) hb); have n2_ := Aside0.mk (below_step (by repeat (first | (with_reducible first | exact HB.out | apply below_alloc | apply pw_below_drewN | apply below_drew1 | refine below_set ?_ GE349.out | refine below_set ?_ GE350.out) | exact HB.out)) hb); clear BK349; clear BK350; clear HB; have BK349 := n0_; have BK350 := n1_; have HB := n2_; clear n0_ n1_ n2_; (try clear hb); (try clear hb2); (try clear hk); (try clear hi); have hcz11_0 : w10.cell? ⟨gb349, 0, none⟩ = some (.int .i64 a0_0) := (blk_cell BK349.out 0).trans rfl; have hcz11_1 : w10.cell? ⟨gb349, 1, none⟩ = some (.int .i64 a0_1) := (blk_cell BK349.out 1).trans rfl; have hcz11_2 : w10.cell? ⟨gb349, 2, none⟩ = some (.int .i64 a0_2) := (blk_cell BK349.out 2).trans rfl; have hcz11_3 : w10.cell? ⟨gb349, 3, none⟩ = some (.int .i64 a0_3) := (blk_cell BK349.out 3).trans rfl; have hcz11_4 : w10.cell? ⟨gb349, 4, none⟩ = some (.int .i64 a0_4) := (blk_cell BK349.out 4).trans rfl; have hcz11_5 : w10.cell? ⟨gb349, 5, none⟩ = some (.slice A0_5 l0_5.length c0_5) := (blk_cell BK349.out 5).trans rfl; have hfz11_0 := blk_frozen BK349.out 0; have hfz11_1 := blk_frozen BK349.out 1; have hfz11_2 := blk_frozen BK349.out 2; have hfz11_3 := blk_frozen BK349.out 3; have hfz11_4 := blk_frozen BK349.out 4; have hfz11_5 := blk_frozen BK349.out 5) | ((with_reducible refine gate_dst (N := 7) rfl ?_); refine box_event ?hg (N := 7) ?hd (cs := #[.int .i64 0, .int .i64 0, .int .i64 0, .int .i64 0, .int .i64 0, .slice none 0 0]) (t := 26) ?hr ?_; (case hd => rfl); (case hg => rfl); (case hr => first | (go_simp; done) | (go_simp; rfl)); intro gb353 hg w12 hbox hb; have n0_ := Aside0.mk (blk_below (g := gb349) (o := .cells #[.int .i64 a0_0, .int .i64 a0_1, .int .i64 a0_2, .int .i64 a0_3, .int .i64 a0_4, .slice A0_5 l0_5.length c0_5] 26 (0, 0)) (by (with_reducible repeat (first | refine blk_drewN ?_ _ | refine blk_drew ?_ | refine blk_alloc ?_ _)); exact BK349.out) hb); have n1_ := Aside0.mk (blk_below (g := gb350) (o := .cells #[.int .i64 a2_0, .int .i64 a2_1] 23 (0, 0)) (by (with_reducible repeat (first | refine blk_drewN ?_ _ | refine blk_drew ?_ | refine blk_alloc ?_ _)); exact BK350.out) hb); have n2_ := Aside0.mk (below_step (by repeat (first | (with_reducible first | exact HB.out | apply below_alloc | apply pw_below_drewN | apply below_drew1 | refine below_set ?_ GE349.out | refine below_set ?_ GE350.out) | exact HB.out)) hb); have n3_ := Aside0.mk (hbox); have n4_ := Aside0.mk ((by rw [hg]; exact (below_size (by repeat (first | (with_reducible first | exact HB.out | apply below_alloc | apply pw_below_drewN | apply below_drew1 | refine below_set ?_ GE349.out | refine below_set ?_ GE350.out) | exact HB.out))) : w.heap.size ≤ gb353)); have n5_ := Aside0.mk ((by rw [hg]; exact (below_size (by repeat (first | (with_reducible first | exact HB.out | apply below_alloc | apply pw_below_drewN | apply below_drew1 | refine below_set ?_ GE349.out | refine below_set ?_ GE350.out) | exact HB.out))) : w.heap.size ≤ gb353)); have n6_ := Aside0.mk ((by rw [hg]; exact Nat.ne_of_lt (blk_lt (g := gb349) (o := .cells #[.int .i64 a0_0, .int .i64 a0_1, .int .i64 a0_2, .int .i64 a0_3, .int .i64 a0_4, .slice A0_5 l0_5.length c0_5] 26 (0, 0)) (by (with_reducible repeat (first | refine blk_drewN ?_ _ | refine blk_drew ?_ | refine blk_alloc ?_ _)); exact BK349.out)) : gb349 ≠ gb353)); have n7_ := Aside0.mk ((by rw [hg]; exact Nat.ne_of_gt (blk_lt (g := gb349) (o := .cells #[.int .i64 a0_0, .int .i64 a0_1, .int .i64 a0_2, .int .i64 a0_3, .int .i64 a0_4, .slice A0_5 l0_5.length c0_5] 26 (0, 0)) (by (with_reducible repeat (first | refine blk_drewN ?_ _ | refine blk_drew ?_ | refine blk_alloc ?_ _)); exact BK349.out)) : gb353 ≠ gb349)); have n8_ := Aside0.mk ((by rw [hg]; exact Nat.ne_of_lt (blk_lt (g := gb350) (o := .cells #[.int .i64 a2_0, .int .i64 a2_1] 23 (0, 0)) (by (with_reducible repeat (first | refine blk_drewN ?_ _ | refine blk_drew ?_ | refine blk_alloc ?_ _)); exact BK350.out)) : gb350 ≠ gb353)); have n9_ := Aside0.mk ((by rw [hg]; exact Nat.ne_of_gt (blk_lt (g := gb350) (o := .cells #[.int .i64 a2_0, .int .i64 a2_1] 23 (0, 0)) (by (with_reducible repeat (first | refine blk_drewN ?_ _ | refine blk_drew ?_ | refine blk_alloc ?_ _)); exact BK350.out)) : gb353 ≠ gb350)); clear BK349; clear BK350; clear HB; have BK349 := n0_; have BK350 := n1_; have HB := n2_; have BK353 := n3_; have GW353 := n4_; have GE353 := n5_; have NB349_353 := n6_; have NB353_349 := n7_; have NB350_353 := n8_; have NB353_350 := n9_; clear n0_ n1_ n2_ n3_ n4_ n5_ n6_ n7_ n8_ n9_; clear hb hbox hg; have hnb13 := NB353_349.out; have hnc13 := NB349_353.out; have hnb14 := NB353_350.out; have hnc14 := NB350_353.out; have hcz15_0 : w12.cell? ⟨gb353, 0, none⟩ = some (.int .i64 0) := (blk_cell BK353.out 0).trans rfl; have hcz15_1 : w12.cell? ⟨gb353, 1, none⟩ = some (.int .i64 0) := (blk_cell BK353.out 1).trans rfl; have hcz15_2 : w12.cell? ⟨gb353, 2, none⟩ = some (.int .i64 0) := (blk_cell BK353.out 2).trans rfl; have hcz15_3 : w12.cell? ⟨gb353, 3, none⟩ = some (.int .i64 0) := (blk_cell BK353.out 3).trans rfl; have hcz15_4 : w12.cell? ⟨gb353, 4, none⟩ = some (.int .i64 0) := (blk_cell BK353.out 4).trans rfl; have hcz15_5 : w12.cell? ⟨gb353, 5, none⟩ = some (.slice none 0 0) := (blk_cell BK353.out 5).trans rfl; have hfz15_0 := blk_frozen BK353.out 0; have hfz15_1 := blk_frozen BK353.out 1; have hfz15_2 := blk_frozen BK353.out 2; have hfz15_3 := blk_frozen BK353.out 3; have hfz15_4 := blk_frozen BK353.out 4; have hfz15_5 := blk_frozen BK353.out 5))
  go_loopg [8] k (fun kq v8 w' => ∃ (x8_1 : Int) (x354005_1 : List Int) (u354005 : Value), v8 = .int .i64 x8_1 ∧ Aside0 (mapsheetslaw43_TerrainRises.l0 kq a1 x8_1 a0_0 a0_1 a0_2 a0_3 a0_4 l0_5 a2_0 a2_1 a0_0 a0_1 a0_2 a0_3 a0_4 x354005_1 = some r) ∧ Aside0 (kq ≤ k) ∧ Aside0 (Kd.R (Kd.int .i64) 3 w' w.heap.size (fun _ => True) u354005 x354005_1) ∧ Aside0 (w'.heap[gb349]? = some (.cells #[.int .i64 a0_0, .int .i64 a0_1, .int .i64 a0_2, .int .i64 a0_3, .int .i64 a0_4, (.slice A0_5 l0_5.length c0_5)] 26 (0, 0))) ∧ Aside0 (w'.heap[gb350]? = some (.cells #[.int .i64 a2_0, .int .i64 a2_1] 23 (0, 0))) ∧ Aside0 (w'.heap[gb353]? = some (.cells #[.int .i64 a0_0, .int .i64 a0_1, .int .i64 a0_2, .int .i64 a0_3, .int .i64 a0_4, u354005] 26 (0, 0))) ∧ Aside0 (Below w.heap.size w w'))
  case atStart => exact ⟨(0), (([] : List Int)), (.slice none 0 0), (by first | rfl | (simp; done) | (simp [*]; done)), H', ⟨Nat.le_refl _⟩, ⟨by first | exact Kd.R_nil _ _ _ _ _ | exact Kd.N_nil _ _ _ _ _ | exact Kd.V_nil _ _ _ _ _ | exact Kd.Q_nil _ _ _ _ _ | exact Kd.S_nil _ _ _ _ _⟩, ⟨by (with_reducible repeat (first | refine blk_drewN ?_ _ | refine blk_drew ?_ | refine blk_alloc ?_ _)); refine blk_far ?_ NB349_353.out _; (with_reducible repeat (first | refine blk_drewN ?_ _ | refine blk_drew ?_ | refine blk_alloc ?_ _)); refine blk_far ?_ NB349_353.out _; (with_reducible repeat (first | refine blk_drewN ?_ _ | refine blk_drew ?_ | refine blk_alloc ?_ _)); refine blk_far ?_ NB349_353.out _; (with_reducible repeat (first | refine blk_drewN ?_ _ | refine blk_drew ?_ | refine blk_alloc ?_ _)); refine blk_far ?_ NB349_353.out _; (with_reducible repeat (first | refine blk_drewN ?_ _ | refine blk_drew ?_ | refine blk_alloc ?_ _)); refine blk_far ?_ NB349_353.out _; (with_reducible repeat (first | refine blk_drewN ?_ _ | refine blk_drew ?_ | refine blk_alloc ?_ _)); refine blk_far ?_ NB349_353.out _; (with_reducible repeat (first | refine blk_drewN ?_ _ | refine blk_drew ?_ | refine blk_alloc ?_ _)); refine blk_far ?_ NB349_353.out _; (with_reducible repeat (first | refine blk_drewN ?_ _ | refine blk_drew ?_ | refine blk_alloc ?_ _)); exact BK349.out⟩, ⟨by (with_reducible repeat (first | refine blk_drewN ?_ _ | refine blk_drew ?_ | refine blk_alloc ?_ _)); refine blk_far ?_ NB350_353.out _; (with_reducible repeat (first | refine blk_drewN ?_ _ | refine blk_drew ?_ | refine blk_alloc ?_ _)); refine blk_far ?_ NB350_353.out _; (with_reducible repeat (first | refine blk_drewN ?_ _ | refine blk_drew ?_ | refine blk_alloc ?_ _)); refine blk_far ?_ NB350_353.out _; (with_reducible repeat (first | refine blk_drewN ?_ _ | refine blk_drew ?_ | refine blk_alloc ?_ _)); refine blk_far ?_ NB350_353.out _; (with_reducible repeat (first | refine blk_drewN ?_ _ | refine blk_drew ?_ | refine blk_alloc ?_ _)); refine blk_far ?_ NB350_353.out _; (with_reducible repeat (first | refine blk_drewN ?_ _ | refine blk_drew ?_ | refine blk_alloc ?_ _)); refine blk_far ?_ NB350_353.out _; (with_reducible repeat (first | refine blk_drewN ?_ _ | refine blk_drew ?_ | refine blk_alloc ?_ _)); refine blk_far ?_ NB350_353.out _; (with_reducible repeat (first | refine blk_drewN ?_ _ | refine blk_drew ?_ | refine blk_alloc ?_ _)); exact BK350.out⟩, ⟨by (with_reducible repeat (first | refine blk_drewN ?_ _ | refine blk_drew ?_ | refine blk_alloc ?_ _)); refine blk_put (cs := #[.int .i64 a0_0, .int .i64 a0_1, .int .i64 a0_2, .int .i64 a0_3, .int .i64 a0_4, .slice A0_5 l0_5.length c0_5]) ?_ 5 _ rfl; (with_reducible repeat (first | refine blk_drewN ?_ _ | refine blk_drew ?_ | refine blk_alloc ?_ _)); refine blk_put (cs := #[.int .i64 a0_0, .int .i64 a0_1, .int .i64 a0_2, .int .i64 a0_3, .int .i64 a0_4, .slice none 0 0]) ?_ 5 _ rfl; (with_reducible repeat (first | refine blk_drewN ?_ _ | refine blk_drew ?_ | refine blk_alloc ?_ _)); refine blk_put (cs := #[.int .i64 a0_0, .int .i64 a0_1, .int .i64 a0_2, .int .i64 a0_3, .int .i64 0, .slice none 0 0]) ?_ 4 _ rfl; (with_reducible repeat (first | refine blk_drewN ?_ _ | refine blk_drew ?_ | refine blk_alloc ?_ _)); refine blk_put (cs := #[.int .i64 a0_0, .int .i64 a0_1, .int .i64 a0_2, .int .i64 0, .int .i64 0, .slice none 0 0]) ?_ 3 _ rfl; (with_reducible repeat (first | refine blk_drewN ?_ _ | refine blk_drew ?_ | refine blk_alloc ?_ _)); refine blk_put (cs := #[.int .i64 a0_0, .int .i64 a0_1, .int .i64 0, .int .i64 0, .int .i64 0, .slice none 0 0]) ?_ 2 _ rfl; (with_reducible repeat (first | refine blk_drewN ?_ _ | refine blk_drew ?_ | refine blk_alloc ?_ _)); refine blk_put (cs := #[.int .i64 a0_0, .int .i64 0, .int .i64 0, .int .i64 0, .int .i64 0, .slice none 0 0]) ?_ 1 _ rfl; (with_reducible repeat (first | refine blk_drewN ?_ _ | refine blk_drew ?_ | refine blk_alloc ?_ _)); refine blk_put (cs := #[.int .i64 0, .int .i64 0, .int .i64 0, .int .i64 0, .int .i64 0, .slice none 0 0]) ?_ 0 _ rfl; (with_reducible repeat (first | refine blk_drewN ?_ _ | refine blk_drew ?_ | refine blk_alloc ?_ _)); exact BK353.out⟩, ⟨by repeat (first | (with_reducible first | exact HB.out | apply below_alloc | apply pw_below_drewN | apply below_drew1 | refine below_set ?_ GE349.out | refine below_set ?_ GE350.out | refine below_set ?_ GE353.out) | exact HB.out)⟩⟩
  case round =>
   clear H'
   try clear c1
   try clear p2
   try clear c5
   try clear c6
   try clear c8
   try clear c9
   try clear c13
   try clear c14
   try clear hcz11_0
   try clear hcz11_1
   try clear hcz11_2
   try clear hcz11_3
   try clear hcz11_4
   try clear hcz11_5
   try clear hcz15_0
   try clear hcz15_1
   try clear hcz15_2
   try clear hcz15_3
   try clear hcz15_4
   try clear hcz15_5
   try clear hcz9_0
   try clear hcz9_1
   try clear hcz9_2
   try clear hcz9_3
   try clear hcz9_4
   try clear hcz9_5
   try clear hfz11_0
   try clear hfz11_1
   try clear hfz11_2
   try clear hfz11_3
   try clear hfz11_4
   try clear hfz11_5
   try clear hfz15_0
   try clear hfz15_1
   try clear hfz15_2
   try clear hfz15_3
   try clear hfz15_4
   try clear hfz15_5
   try clear hfz9_0
   try clear hfz9_1
   try clear hfz9_2
   try clear hfz9_3
   try clear hfz9_4
   try clear hfz9_5
   obtain ⟨x8_1, x354005_1, u354005, rfl, HA, HK1, HO_354005, BK349, BK350, BK353, HB⟩ := hrel
   cases gk with
   | zero => exact absurd HA.out (by simp [mapsheetslaw43_TerrainRises.l0])
   | succ k1 =>
    have H := HA.out
    clear HA
    simp only [mapsheetslaw43_TerrainRises.l0] at H
    by_cases c16 : x8_1 < (l0_5.length : Int)
    ·rw [if_pos c16] at H
     have c16b0 : decide (x8_1 < (l0_5.length : Int)) = true := decide_eq_true c16
     clear c16
     by_cases c17 : 0 ≤ x8_1
     ·rw [if_pos c17] at H
      have c17b0 : decide (0 ≤ x8_1) = true := decide_eq_true c17
      clear c17
      by_cases c18 : x354005_1.length < 17592186044416
      ·rw [if_pos c18] at H
       have LMc18 := Aside0.mk c18
       clear c18
       obtain ⟨y355, hy355⟩ : ∃ y_ : List Int, y_ = (x354005_1 ++ [wrap64 ((rd l0_5 x8_1) + (wrap64 (a1)))]) := ⟨_, rfl⟩
       replace H : (mapsheetslaw43_TerrainRises.l0 k1 a1 (wrap64 (x8_1 + 1)) a0_0 a0_1 a0_2 a0_3 a0_4 l0_5 a2_0 a2_1 a0_0 a0_1 a0_2 a0_3 a0_4 y355) = some r := by first | (rw [hy355]; with_reducible exact H) | (have H2_ := (Option.bind_some _ _).symm.trans H; rw [hy355]; with_reducible exact H2_) | (have H2_ := (Option.bind_some _ _).symm.trans H; with_reducible exact H2_) | with_reducible exact H | (rw [hy355]; exact H) | exact H
       have Ny355 := Aside0.mk hy355
       clear hy355
       have H' := Aside0.mk H
       clear H
       have hnb19 := NB349_350.out
       have hnc19 := NB350_349.out
       have hnb20 := NB349_353.out
       have hnc20 := NB353_349.out
       have hcz21_0 : wr.cell? ⟨gb349, 0, none⟩ = some (.int .i64 a0_0) := (blk_cell BK349.out 0).trans rfl
       have hcz21_1 : wr.cell? ⟨gb349, 1, none⟩ = some (.int .i64 a0_1) := (blk_cell BK349.out 1).trans rfl
       have hcz21_2 : wr.cell? ⟨gb349, 2, none⟩ = some (.int .i64 a0_2) := (blk_cell BK349.out 2).trans rfl
       have hcz21_3 : wr.cell? ⟨gb349, 3, none⟩ = some (.int .i64 a0_3) := (blk_cell BK349.out 3).trans rfl
       have hcz21_4 : wr.cell? ⟨gb349, 4, none⟩ = some (.int .i64 a0_4) := (blk_cell BK349.out 4).trans rfl
       have hcz21_5 : wr.cell? ⟨gb349, 5, none⟩ = some (.slice A0_5 l0_5.length c0_5) := (blk_cell BK349.out 5).trans rfl
       have hfz21_0 := blk_frozen BK349.out 0
       have hfz21_1 := blk_frozen BK349.out 1
       have hfz21_2 := blk_frozen BK349.out 2
       have hfz21_3 := blk_frozen BK349.out 3
       have hfz21_4 := blk_frozen BK349.out 4
       have hfz21_5 := blk_frozen BK349.out 5
       try go_wp2
       have n0_ := Aside0.mk (Kd.R_drew HO_354005.out)
       have n1_ := Aside0.mk (blk_drew BK349.out)
       have n2_ := Aside0.mk (blk_drew BK350.out)
       have n3_ := Aside0.mk (blk_drew BK353.out)
       have n4_ := Aside0.mk (below_drew1 HB.out)
       clear HO_354005
       clear BK349
       clear BK350
       clear BK353
       clear HB
       have HO_354005 := n0_
       have BK349 := n1_
       have BK350 := n2_
       have BK353 := n3_
       have HB := n4_
       clear n0_ n1_ n2_ n3_ n4_
       have p354 : 0 ≤ (x8_1 : Int) := of_decide_eq_true (by first | (with_reducible assumption) | assumption)
       have q354 : x8_1 < (l0_5.length : Int) := of_decide_eq_true (by first | (with_reducible assumption) | assumption)
       obtain ⟨ad354, e354, hx354_0⟩ := Kd.at_int HR0_5.out x8_1 p354 q354
       have hw354_0 := hx354_0
       cases e354
       replace hx354_0 := (HB.out.cell (World.block_lt_of_cell? w _ hx354_0)).trans hx354_0
       replace p354 := eq_true p354
       replace q354 := eq_true q354
       refine start_ (n := 14) (S := fun w' => w'.cell? ⟨gb353, 0, none⟩ = some (.int .i64 a0_0) ∧ w'.cell? ⟨gb353, 1, none⟩ = some (.int .i64 a0_1) ∧ w'.cell? ⟨gb353, 2, none⟩ = some (.int .i64 a0_2) ∧ w'.cell? ⟨gb353, 3, none⟩ = some (.int .i64 a0_3) ∧ w'.cell? ⟨gb353, 4, none⟩ = some (.int .i64 a0_4) ∧ w'.cell? ⟨gb353, 5, none⟩ = some (u354005) ∧ w'.cell? ⟨gb349, 0, none⟩ = some (.int .i64 a0_0) ∧ w'.cell? ⟨gb349, 1, none⟩ = some (.int .i64 a0_1) ∧ w'.cell? ⟨gb349, 2, none⟩ = some (.int .i64 a0_2) ∧ w'.cell? ⟨gb349, 3, none⟩ = some (.int .i64 a0_3) ∧ w'.cell? ⟨gb349, 4, none⟩ = some (.int .i64 a0_4) ∧ w'.cell? ⟨gb349, 5, none⟩ = some (.slice (some ad354) l0_5.length c0_5) ∧ w'.cell? (ad354.add (x8_1).toNat) = some (.int .i64 (rd l0_5 x8_1))) (ds := [13]) #[false, false, false, false, false, false, false, false, false, false, false, false, false, false] (by kernel_rfl) rfl rfl ⟨(blk_cell BK353.out 0).trans rfl, (blk_cell BK353.out 1).trans rfl, (blk_cell BK353.out 2).trans rfl, (blk_cell BK353.out 3).trans rfl, (blk_cell BK353.out 4).trans rfl, (blk_cell BK353.out 5).trans rfl, (blk_cell BK349.out 0).trans rfl, (blk_cell BK349.out 1).trans rfl, (blk_cell BK349.out 2).trans rfl, (blk_cell BK349.out 3).trans rfl, (blk_cell BK349.out 4).trans rfl, (blk_cell BK349.out 5).trans rfl, ((HB.out.cell (World.block_lt_of_cell? w _ hw354_0)).trans hw354_0)⟩ (fun hHeld => ?_); refine with_tabW mapsheetslaw43_TerrainRises.tab8 mapsheetslaw43_TerrainRises.bits8 (fun HT_ HW_ => ?_)
       generalize wr.drew = w22 at HO_354005 BK349 BK350 BK353 HB hx354_0 hHeld ⊢
       refine pure_ (i := 0) (N := some 30) (v := ?_) (a' := ?_) #[true, false, false, false, false, false, false, false, false, false, false, false, false, false] rfl rfl (any_of HT_.out (by kernel_rfl)) (fun _ _ _ h => h) (Or.inl ⟨by rfl, ?_⟩) ?_ ?_
       rotate_left
       ·intro w'
        go_simp
        with_reducible rfl
       rotate_left
       ·simp only [Act.put, List.setIfInBounds_toArray, List.set_cons_zero, List.set_cons_succ, i64_w, i32_w]
        rfl
       refine pure_ (i := 2) (N := some 32) (v := ?_) (a' := ?_) #[true, false, true, false, false, false, false, false, false, false, false, false, false, false] rfl rfl (any_of HT_.out (by kernel_rfl)) (fun _ _ _ h => h) (Or.inl ⟨by rfl, ?_⟩) ?_ ?_
       rotate_left
       ·intro w'
        go_simp
        with_reducible rfl
       rotate_left
       ·simp only [Act.put, List.setIfInBounds_toArray, List.set_cons_zero, List.set_cons_succ, i64_w, i32_w]
        rfl
       refine pure_ (i := 4) (N := some 34) (v := ?_) (a' := ?_) #[true, false, true, false, true, false, false, false, false, false, false, false, false, false] rfl rfl (any_of HT_.out (by kernel_rfl)) (fun _ _ _ h => h) (Or.inl ⟨by rfl, ?_⟩) ?_ ?_
       rotate_left
       ·intro w'
        go_simp
        with_reducible rfl
       rotate_left
       ·simp only [Act.put, List.setIfInBounds_toArray, List.set_cons_zero, List.set_cons_succ, i64_w, i32_w]
        rfl
       refine pure_ (i := 7) (N := some 37) (v := ?_) (a' := ?_) #[true, false, true, false, true, false, false, true, false, false, false, false, false, false] rfl rfl (any_of HT_.out (by kernel_rfl)) (fun _ _ _ h => h) (Or.inl ⟨by rfl, ?_⟩) ?_ ?_
       rotate_left
       ·intro w'
        go_simp
        with_reducible rfl
       rotate_left
       ·simp only [Act.put, List.setIfInBounds_toArray, List.set_cons_zero, List.set_cons_succ, i64_w, i32_w]
        rfl
       refine pure_ (i := 8) (N := some 38) (v := ?_) (a' := ?_) #[true, false, true, false, true, false, false, true, true, false, false, false, false, false] rfl rfl (any_of HT_.out (by kernel_rfl)) (fun _ _ _ h => h) (Or.inl ⟨by rfl, ?_⟩) ?_ ?_
       rotate_left
       ·intro w'
        go_simp
        with_reducible rfl
       rotate_left
       ·simp only [Act.put, List.setIfInBounds_toArray, List.set_cons_zero, List.set_cons_succ, i64_w, i32_w]
        rfl
       refine take_ (i := 1) (N := some 31) (v := ?_) (a' := ?_) #[true, true, true, false, true, false, false, true, true, false, false, false, false, false] rfl rfl (take_ofW HT_.out HW_.out (by kernel_rfl)) (fun _ _ _ h => h) (Or.inl ⟨by rfl, ?_⟩) hHeld ?_ ?_
       rotate_left
       ·rintro w' ⟨s0, s1, s2, s3, s4, s5, s6, s7, s8, s9, s10, s11, s12⟩
        go_simp
        with_reducible rfl
       rotate_left
       ·simp only [Act.put, List.setIfInBounds_toArray, List.set_cons_zero, List.set_cons_succ, i64_w, i32_w]
        rfl
       refine take_ (i := 3) (N := some 33) (v := ?_) (a' := ?_) #[true, true, true, true, true, false, false, true, true, false, false, false, false, false] rfl rfl (take_ofW HT_.out HW_.out (by kernel_rfl)) (fun _ _ _ h => h) (Or.inl ⟨by rfl, ?_⟩) hHeld ?_ ?_
       rotate_left
       ·rintro w' ⟨s0, s1, s2, s3, s4, s5, s6, s7, s8, s9, s10, s11, s12⟩
        go_simp
        with_reducible rfl
       rotate_left
       ·simp only [Act.put, List.setIfInBounds_toArray, List.set_cons_zero, List.set_cons_succ, i64_w, i32_w]
        rfl
       refine pure_ (i := 5) (N := some 35) (v := ?_) (a' := ?_) #[true, true, true, true, true, true, false, true, true, false, false, false, false, false] rfl rfl (any_of HT_.out (by kernel_rfl)) (fun _ _ _ h => h) (Or.inl ⟨by rfl, ?_⟩) ?_ ?_
       rotate_left
       ·intro w'
        go_simp
        with_reducible rfl
       rotate_left
       ·simp only [Act.put, List.setIfInBounds_toArray, List.set_cons_zero, List.set_cons_succ, i64_w, i32_w]
        rfl
       refine take_ (i := 6) (N := some 36) (v := ?_) (a' := ?_) #[true, true, true, true, true, true, true, true, true, false, false, false, false, false] rfl rfl (take_ofW HT_.out HW_.out (by kernel_rfl)) (fun _ _ _ h => h) (Or.inl ⟨by rfl, ?_⟩) hHeld ?_ ?_
       rotate_left
       ·rintro w' ⟨s0, s1, s2, s3, s4, s5, s6, s7, s8, s9, s10, s11, s12⟩
        go_simp
        with_reducible rfl
       rotate_left
       ·simp only [Act.put, List.setIfInBounds_toArray, List.set_cons_zero, List.set_cons_succ, i64_w, i32_w]
        rfl
       refine pure_ (i := 9) (N := some 39) (v := ?_) (a' := ?_) #[true, true, true, true, true, true, true, true, true, true, false, false, false, false] rfl rfl (any_of HT_.out (by kernel_rfl)) (fun _ _ _ h => h) (Or.inl ⟨by rfl, ?_⟩) ?_ ?_
       rotate_left
       ·intro w'
        go_simp
        with_reducible rfl
       rotate_left
       ·simp only [Act.put, List.setIfInBounds_toArray, List.set_cons_zero, List.set_cons_succ, i64_w, i32_w]
        rfl
       refine one_ (i := 10) (N := some 40) #[true, true, true, true, true, true, true, true, true, true, true, false, false, false] rfl rfl (one_of HT_.out (by kernel_rfl)) (by decide) (fun K hK => ?_)
       refine value_ (w1 := ?_) (v := ?_) (by rfl) rfl ?_ ?_
       rotate_left 2
       ·go_simp
        constructor
        ·rfl
        ·rfl
       refine hK.out _ _ ⟨(blk_cell (blk_alloc BK353.out _) 0).trans rfl, (blk_cell (blk_alloc BK353.out _) 1).trans rfl, (blk_cell (blk_alloc BK353.out _) 2).trans rfl, (blk_cell (blk_alloc BK353.out _) 3).trans rfl, (blk_cell (blk_alloc BK353.out _) 4).trans rfl, (blk_cell (blk_alloc BK353.out _) 5).trans rfl, (blk_cell (blk_alloc BK349.out _) 0).trans rfl, (blk_cell (blk_alloc BK349.out _) 1).trans rfl, (blk_cell (blk_alloc BK349.out _) 2).trans rfl, (blk_cell (blk_alloc BK349.out _) 3).trans rfl, (blk_cell (blk_alloc BK349.out _) 4).trans rfl, (blk_cell (blk_alloc BK349.out _) 5).trans rfl, (World.cell?_alloc_lt _ _ _ (World.block_lt_of_cell? _ _ (((HB.out.cell (World.block_lt_of_cell? w _ hw354_0)).trans hw354_0)))).trans (((HB.out.cell (World.block_lt_of_cell? w _ hw354_0)).trans hw354_0))⟩ (fun hHeld => ?_)
       clear hK K
       refine norm_ (a' := ?_) ?_ ?_
       rotate_left
       ·show Act.put _ (some 40) _ = _
        simp only [Act.put, List.setIfInBounds_toArray, List.set_cons_zero, List.set_cons_succ, i64_w, i32_w]
        rfl
       refine one_ (i := 11) (N := some 41) #[true, true, true, true, true, true, true, true, true, true, true, true, false, false] rfl rfl (one_of HT_.out (by kernel_rfl)) (by decide) (fun K hK => ?_)
       refine Kd.R_append_step (Kd.int .i64) (w0 := w) w.heap.size (by rfl) (.tmp 31) (.tmp 40) 24 3 (.int .i64 0) 8 rfl Try.underlying24 info3 rfl (by decide) (by omega) u354005 x354005_1 (wrap64 ((rd l0_5 x8_1) + (wrap64 (a1)))) [.int .i64 (wrap64 ((rd l0_5 x8_1) + (wrap64 (a1))))] (fun _ => True) (fun _ => False) rfl rfl ?aP (fun _ hk => hk.elim) ?aF ?aO ?aB ?aS ?aL ?_
       (case aP => exact rfl)
       (case aB => exact (by repeat (first | (with_reducible first | exact HB.out | apply below_alloc | apply pw_below_drewN | apply below_drew1 | refine below_set ?_ GE349.out | refine below_set ?_ GE350.out | refine below_set ?_ GE353.out) | exact HB.out)))
       (case aF => exact (fun _ _ => trivial))
       (case aO => exact (by (with_reducible repeat (first | apply Kd.R_alloc | apply Kd.R_drewN | apply Kd.R_drew)); exact HO_354005.out))
       (case aS => exact (below_size (by repeat (first | (with_reducible first | exact HB.out | apply below_alloc | apply pw_below_drewN | apply below_drew1 | refine below_set ?_ GE349.out | refine below_set ?_ GE350.out | refine below_set ?_ GE353.out) | exact HB.out))))
       (case aL => have := LMc18.out; omega)
       intro v356 w23 ho hb hg hat
       rw [← Ny355.out] at ho
       have n0_ := Aside0.mk (blk_grown (g := gb349) (o := .cells #[.int .i64 a0_0, .int .i64 a0_1, .int .i64 a0_2, .int .i64 a0_3, .int .i64 a0_4, .slice (some ad354) l0_5.length c0_5] 26 (0, 0)) (by (with_reducible repeat (first | refine blk_drewN ?_ _ | refine blk_drew ?_ | refine blk_alloc ?_ _)); exact BK349.out) hg (Kd.R_ne HO_354005.out BK349.out (by decide)))
       have n1_ := Aside0.mk (blk_grown (g := gb350) (o := .cells #[.int .i64 a2_0, .int .i64 a2_1] 23 (0, 0)) (by (with_reducible repeat (first | refine blk_drewN ?_ _ | refine blk_drew ?_ | refine blk_alloc ?_ _)); exact BK350.out) hg (Kd.R_ne HO_354005.out BK350.out (by decide)))
       have n2_ := Aside0.mk (blk_grown (g := gb353) (o := .cells #[.int .i64 a0_0, .int .i64 a0_1, .int .i64 a0_2, .int .i64 a0_3, .int .i64 a0_4, u354005] 26 (0, 0)) (by (with_reducible repeat (first | refine blk_drewN ?_ _ | refine blk_drew ?_ | refine blk_alloc ?_ _)); exact BK353.out) hg (Kd.R_ne HO_354005.out BK353.out (by decide)))
       have n3_ := Aside0.mk (hb)
       have n4_ := Aside0.mk (ho)
       clear BK349
       clear BK350
       clear BK353
       clear HB
       clear HO_354005
       have BK349 := n0_
       have BK350 := n1_
       have BK353 := n2_
       have HB := n3_
       have HO357 := n4_
       clear n0_ n1_ n2_ n3_ n4_
       clear ho hb hg hat
       obtain ⟨Ao24, co24, eo24⟩ := Kd.R_slice HO357.out
       (first | subst eo24 | (injection eo24 with f1_ f2_ f3_; have f4_ := f1_.symm; have f5_ := f3_.symm; clear f1_ f2_ f3_; subst f4_; subst f5_))
       refine hK.out _ _ ⟨(blk_cell BK353.out 0).trans rfl, (blk_cell BK353.out 1).trans rfl, (blk_cell BK353.out 2).trans rfl, (blk_cell BK353.out 3).trans rfl, (blk_cell BK353.out 4).trans rfl, (blk_cell BK353.out 5).trans rfl, (blk_cell BK349.out 0).trans rfl, (blk_cell BK349.out 1).trans rfl, (blk_cell BK349.out 2).trans rfl, (blk_cell BK349.out 3).trans rfl, (blk_cell BK349.out 4).trans rfl, (blk_cell BK349.out 5).trans rfl, ((HB.out.cell (World.block_lt_of_cell? w _ hw354_0)).trans hw354_0)⟩ (fun hHeld => ?_)
       clear hK K
       refine norm_ (a' := ?_) ?_ ?_
       rotate_left
       ·show Act.put _ (some 41) _ = _
        simp only [Act.put, List.setIfInBounds_toArray, List.set_cons_zero, List.set_cons_succ, i64_w, i32_w]
        rfl
       refine pure_ (i := 12) (N := some 42) (v := ?_) (a' := ?_) #[true, true, true, true, true, true, true, true, true, true, true, true, true, false] rfl rfl (any_of HT_.out (by kernel_rfl)) (fun _ _ _ h => h) (Or.inl ⟨by rfl, ?_⟩) ?_ ?_
       rotate_left
       ·intro w'
        go_simp
        with_reducible rfl
       rotate_left
       ·simp only [Act.put, List.setIfInBounds_toArray, List.set_cons_zero, List.set_cons_succ, i64_w, i32_w]
        rfl
       refine last_ (i := 13) (N := none) #[true, true, true, true, true, true, true, true, true, true, true, true, true, true] rfl rfl (one_of HT_.out (by kernel_rfl)) (by decide) (fun K hK => ?_)
       have hs25 : w23.cell? ⟨gb353, 5, none⟩ = some (u354005) := (blk_cell BK353.out 5).trans rfl
       have hfs25 := blk_frozen BK353.out 5
       have hns25_0 := NB349_353.out
       have hns25_1 := NB350_353.out
       have hms25_0 := NB353_349.out
       have hms25_1 := NB353_350.out
       refine skip_ (w1 := ?_) (by rfl) rfl ?_ ?_
       rotate_left
       ·go_simp
        rfl
       refine hK.out _ _ ?_
       clear hK K
       refine done_ (done_of HT_.out (by kernel_rfl)) ?_
       try go_wp2
       go_roundg k1
       case measure => have := HK1.out; omega
       case rel => exact ⟨(wrap64 (x8_1 + 1)), (y355), (.slice Ao24 y355.length co24), (by first | rfl | (simp; done) | (simp [*]; done)), H', ⟨by have := HK1.out; omega⟩, ⟨by (with_reducible repeat (first | apply Kd.R_alloc | apply Kd.R_drewN | apply Kd.R_drew)); exact Kd.R_mono (Kd.R_far (p := ⟨gb353, 5, none⟩) (Kd.R_types HO357.out BK353.out (by decide)) (fun _ hk => hk.2) (.slice Ao24 y355.length co24)) (fun _ hk => trivial)⟩, ⟨by (with_reducible repeat (first | refine blk_drewN ?_ _ | refine blk_drew ?_ | refine blk_alloc ?_ _)); refine blk_far ?_ NB349_353.out _; (with_reducible repeat (first | refine blk_drewN ?_ _ | refine blk_drew ?_ | refine blk_alloc ?_ _)); exact BK349.out⟩, ⟨by (with_reducible repeat (first | refine blk_drewN ?_ _ | refine blk_drew ?_ | refine blk_alloc ?_ _)); refine blk_far ?_ NB350_353.out _; (with_reducible repeat (first | refine blk_drewN ?_ _ | refine blk_drew ?_ | refine blk_alloc ?_ _)); exact BK350.out⟩, ⟨by (with_reducible repeat (first | refine blk_drewN ?_ _ | refine blk_drew ?_ | refine blk_alloc ?_ _)); refine blk_put (cs := #[.int .i64 a0_0, .int .i64 a0_1, .int .i64 a0_2, .int .i64 a0_3, .int .i64 a0_4, u354005]) ?_ 5 _ rfl; (with_reducible repeat (first | refine blk_drewN ?_ _ | refine blk_drew ?_ | refine blk_alloc ?_ _)); exact BK353.out⟩, ⟨by repeat (first | (with_reducible first | exact HB.out | apply below_alloc | apply pw_below_drewN | apply below_drew1 | refine below_set ?_ GE349.out | refine below_set ?_ GE350.out | refine below_set ?_ GE353.out) | exact HB.out)⟩⟩
      ·rw [if_neg c18] at H
       exact absurd H (by simp)
     ·rw [if_neg c17] at H
      exact absurd H (by simp)
    ·rw [if_neg c16] at H
     have c16b0 : decide (x8_1 < (l0_5.length : Int)) = false := decide_eq_false c16
     clear c16
     have HC26 := Aside0.mk H
     clear H
     have hnb27 := NB349_350.out
     have hnc27 := NB350_349.out
     have hnb28 := NB349_353.out
     have hnc28 := NB353_349.out
     have hcz29_0 : wr.cell? ⟨gb349, 0, none⟩ = some (.int .i64 a0_0) := (blk_cell BK349.out 0).trans rfl
     have hcz29_1 : wr.cell? ⟨gb349, 1, none⟩ = some (.int .i64 a0_1) := (blk_cell BK349.out 1).trans rfl
     have hcz29_2 : wr.cell? ⟨gb349, 2, none⟩ = some (.int .i64 a0_2) := (blk_cell BK349.out 2).trans rfl
     have hcz29_3 : wr.cell? ⟨gb349, 3, none⟩ = some (.int .i64 a0_3) := (blk_cell BK349.out 3).trans rfl
     have hcz29_4 : wr.cell? ⟨gb349, 4, none⟩ = some (.int .i64 a0_4) := (blk_cell BK349.out 4).trans rfl
     have hcz29_5 : wr.cell? ⟨gb349, 5, none⟩ = some (.slice A0_5 l0_5.length c0_5) := (blk_cell BK349.out 5).trans rfl
     have hfz29_0 := blk_frozen BK349.out 0
     have hfz29_1 := blk_frozen BK349.out 1
     have hfz29_2 := blk_frozen BK349.out 2
     have hfz29_3 := blk_frozen BK349.out 3
     have hfz29_4 := blk_frozen BK349.out 4
     have hfz29_5 := blk_frozen BK349.out 5
     go_upto_region 9 with (fail)
     go_cut [50] (fun v50 wc => ∃ (kq : Nat) (x50_25 : Bool), v50 = .bool x50_25 ∧ Aside0 (mapsheetslaw43_TerrainRises.j1 kq a1 x50_25 a0_0 a0_1 a0_2 a0_3 a0_4 l0_5 a2_0 a2_1 a0_0 a0_1 a0_2 a0_3 a0_4 x354005_1 = some r) ∧ Aside0 (kq ≤ k1) ∧ Aside0 (Kd.R (Kd.int .i64) 3 wc w.heap.size (fun _ => True) u354005 x354005_1) ∧ Aside0 (wc.heap[gb349]? = some (.cells #[.int .i64 a0_0, .int .i64 a0_1, .int .i64 a0_2, .int .i64 a0_3, .int .i64 a0_4, (.slice A0_5 l0_5.length c0_5)] 26 (0, 0))) ∧ Aside0 (wc.heap[gb350]? = some (.cells #[.int .i64 a2_0, .int .i64 a2_1] 23 (0, 0))) ∧ Aside0 (wc.heap[gb353]? = some (.cells #[.int .i64 a0_0, .int .i64 a0_1, .int .i64 a0_2, .int .i64 a0_3, .int .i64 a0_4, u354005] 26 (0, 0))) ∧ Aside0 (Below w.heap.size w wc))
     case first =>
      have H := HC26.out
      clear HC26
      replace H := Option.bind_eq_some_iff.mp H
      obtain ⟨t358, A300, H⟩ := H
      replace H : (if t358 = 0 then ((terrain_Check.f k1 a0_0 a0_1 a0_2 a0_3 a0_4 x354005_1).bind fun t359 => (mapsheetslaw43_TerrainRises.j1 k1 a1 (t359 != 0) a0_0 a0_1 a0_2 a0_3 a0_4 l0_5 a2_0 a2_1 a0_0 a0_1 a0_2 a0_3 a0_4 x354005_1)) else (mapsheetslaw43_TerrainRises.j1 k1 a1 true a0_0 a0_1 a0_2 a0_3 a0_4 l0_5 a2_0 a2_1 a0_0 a0_1 a0_2 a0_3 a0_4 x354005_1)) = some r := H
      have A30 := Aside0.mk A300
      clear A300
      by_cases c31 : t358 = 0
      ·rw [if_pos c31] at H
       have c31b0 : (t358 == 0) = true := beq_iff_eq.mpr c31
       have c31b1 : (t358 != 0) = false := bne_eq_false_iff_eq.mpr c31
       clear c31
       (first | rw [c31b0] | (simp only [i64_w, i32_w]; rw [c31b0]) | skip)
       replace H := Option.bind_eq_some_iff.mp H
       obtain ⟨t359, A320, H⟩ := H
       replace H : (mapsheetslaw43_TerrainRises.j1 k1 a1 (t359 != 0) a0_0 a0_1 a0_2 a0_3 a0_4 l0_5 a2_0 a2_1 a0_0 a0_1 a0_2 a0_3 a0_4 x354005_1) = some r := H
       have A32 := Aside0.mk A320
       clear A320
       have H' := Aside0.mk H
       clear H
       have hnb33 := NB349_350.out
       have hnc33 := NB350_349.out
       have hnb34 := NB349_353.out
       have hnc34 := NB353_349.out
       have hcz35_0 : wr.cell? ⟨gb349, 0, none⟩ = some (.int .i64 a0_0) := (blk_cell BK349.out 0).trans rfl
       have hcz35_1 : wr.cell? ⟨gb349, 1, none⟩ = some (.int .i64 a0_1) := (blk_cell BK349.out 1).trans rfl
       have hcz35_2 : wr.cell? ⟨gb349, 2, none⟩ = some (.int .i64 a0_2) := (blk_cell BK349.out 2).trans rfl
       have hcz35_3 : wr.cell? ⟨gb349, 3, none⟩ = some (.int .i64 a0_3) := (blk_cell BK349.out 3).trans rfl
       have hcz35_4 : wr.cell? ⟨gb349, 4, none⟩ = some (.int .i64 a0_4) := (blk_cell BK349.out 4).trans rfl
       have hcz35_5 : wr.cell? ⟨gb349, 5, none⟩ = some (.slice A0_5 l0_5.length c0_5) := (blk_cell BK349.out 5).trans rfl
       have hfz35_0 := blk_frozen BK349.out 0
       have hfz35_1 := blk_frozen BK349.out 1
       have hfz35_2 := blk_frozen BK349.out 2
       have hfz35_3 := blk_frozen BK349.out 3
       have hfz35_4 := blk_frozen BK349.out 4
       have hfz35_5 := blk_frozen BK349.out 5
       go_wp2_with (first | ((with_reducible refine gate_callee (f := 15) rfl ?_); refine goesL_ (some 44) rfl rfl Try.func15 (by kernel_rfl) rfl #[.agg #[.int .i64 a0_0, .int .i64 a0_1, .int .i64 a0_2, .int .i64 a0_3, .int .i64 a0_4, .slice A0_5 l0_5.length c0_5]] rfl (by (try simp only [List.map_toArray, List.map_cons, List.map_nil]); first | done | rfl | (simp only [List.length_drop, List.length_take]; rfl)) ?_; (with_reducible refine (terrain_Check.calls k1 a0_0 a0_1 a0_2 a0_3 a0_4 _ _ l0_5 t358 _ ?side1 ?side2 A30.out).mono ?_); (case side1 => repeat (first | exact (Kd.C_below HR0_5.out HB.out) | (with_reducible refine Kd.C_alloc ?_ _) | (with_reducible refine Kd.C_drewN ?_ _) | (with_reducible refine Kd.C_drew ?_))); (case side2 => exact HC0_5.out); rintro e w36 ⟨rfl, hb⟩; refine ⟨_, rfl, ?_⟩; have n0_ := Aside0.mk (Kd.R_below (by (with_reducible repeat (first | apply Kd.R_alloc | apply Kd.R_drewN | apply Kd.R_drew)); exact HO_354005.out) hb); have n1_ := Aside0.mk (blk_below (g := gb349) (o := .cells #[.int .i64 a0_0, .int .i64 a0_1, .int .i64 a0_2, .int .i64 a0_3, .int .i64 a0_4, .slice A0_5 l0_5.length c0_5] 26 (0, 0)) (by (with_reducible repeat (first | refine blk_drewN ?_ _ | refine blk_drew ?_ | refine blk_alloc ?_ _)); exact BK349.out) hb); have n2_ := Aside0.mk (blk_below (g := gb350) (o := .cells #[.int .i64 a2_0, .int .i64 a2_1] 23 (0, 0)) (by (with_reducible repeat (first | refine blk_drewN ?_ _ | refine blk_drew ?_ | refine blk_alloc ?_ _)); exact BK350.out) hb); have n3_ := Aside0.mk (blk_below (g := gb353) (o := .cells #[.int .i64 a0_0, .int .i64 a0_1, .int .i64 a0_2, .int .i64 a0_3, .int .i64 a0_4, u354005] 26 (0, 0)) (by (with_reducible repeat (first | refine blk_drewN ?_ _ | refine blk_drew ?_ | refine blk_alloc ?_ _)); exact BK353.out) hb); have n4_ := Aside0.mk (below_step (by repeat (first | (with_reducible first | exact HB.out | apply below_alloc | apply pw_below_drewN | apply below_drew1 | refine below_set ?_ GE349.out | refine below_set ?_ GE350.out | refine below_set ?_ GE353.out) | exact HB.out)) hb); clear HO_354005; clear BK349; clear BK350; clear BK353; clear HB; have HO_354005 := n0_; have BK349 := n1_; have BK350 := n2_; have BK353 := n3_; have HB := n4_; clear n0_ n1_ n2_ n3_ n4_; (try clear hb); (try clear hb2); (try clear hk); (try clear hi); have hnb37 := NB353_350.out; have hnc37 := NB350_353.out; have hcz38_0 : w36.cell? ⟨gb353, 0, none⟩ = some (.int .i64 a0_0) := (blk_cell BK353.out 0).trans rfl; have hcz38_1 : w36.cell? ⟨gb353, 1, none⟩ = some (.int .i64 a0_1) := (blk_cell BK353.out 1).trans rfl; have hcz38_2 : w36.cell? ⟨gb353, 2, none⟩ = some (.int .i64 a0_2) := (blk_cell BK353.out 2).trans rfl; have hcz38_3 : w36.cell? ⟨gb353, 3, none⟩ = some (.int .i64 a0_3) := (blk_cell BK353.out 3).trans rfl; have hcz38_4 : w36.cell? ⟨gb353, 4, none⟩ = some (.int .i64 a0_4) := (blk_cell BK353.out 4).trans rfl; have hcz38_5 : w36.cell? ⟨gb353, 5, none⟩ = some (u354005) := (blk_cell BK353.out 5).trans rfl; have hfz38_0 := blk_frozen BK353.out 0; have hfz38_1 := blk_frozen BK353.out 1; have hfz38_2 := blk_frozen BK353.out 2; have hfz38_3 := blk_frozen BK353.out 3; have hfz38_4 := blk_frozen BK353.out 4; have hfz38_5 := blk_frozen BK353.out 5; obtain ⟨Ao39, co39, eo39⟩ := Kd.R_slice HO_354005.out; subst eo39) | (go_at_call 15; (with_reducible refine (terrain_Check.calls k1 a0_0 a0_1 a0_2 a0_3 a0_4 _ _ x354005_1 t359 _ ?side1 ?side2 A32.out).mono ?_); (case side1 => repeat (first | exact (Kd.R_reads' HO_354005.out).2.2 | (with_reducible refine Kd.C_alloc ?_ _) | (with_reducible refine Kd.C_drewN ?_ _) | (with_reducible refine Kd.C_drew ?_))); (case side2 => exact (Kd.R_reads' HO_354005.out).2.1); rintro e w40 ⟨rfl, hb⟩; have n0_ := Aside0.mk (Kd.R_below (by (with_reducible repeat (first | apply Kd.R_alloc | apply Kd.R_drewN | apply Kd.R_drew)); exact HO_354005.out) hb); have n1_ := Aside0.mk (blk_below (g := gb349) (o := .cells #[.int .i64 a0_0, .int .i64 a0_1, .int .i64 a0_2, .int .i64 a0_3, .int .i64 a0_4, .slice A0_5 l0_5.length c0_5] 26 (0, 0)) (by (with_reducible repeat (first | refine blk_drewN ?_ _ | refine blk_drew ?_ | refine blk_alloc ?_ _)); exact BK349.out) hb); have n2_ := Aside0.mk (blk_below (g := gb350) (o := .cells #[.int .i64 a2_0, .int .i64 a2_1] 23 (0, 0)) (by (with_reducible repeat (first | refine blk_drewN ?_ _ | refine blk_drew ?_ | refine blk_alloc ?_ _)); exact BK350.out) hb); have n3_ := Aside0.mk (blk_below (g := gb353) (o := .cells #[.int .i64 a0_0, .int .i64 a0_1, .int .i64 a0_2, .int .i64 a0_3, .int .i64 a0_4, .slice Ao39 x354005_1.length co39] 26 (0, 0)) (by (with_reducible repeat (first | refine blk_drewN ?_ _ | refine blk_drew ?_ | refine blk_alloc ?_ _)); exact BK353.out) hb); have n4_ := Aside0.mk (below_step (by repeat (first | (with_reducible first | exact HB.out | apply below_alloc | apply pw_below_drewN | apply below_drew1 | refine below_set ?_ GE349.out | refine below_set ?_ GE350.out | refine below_set ?_ GE353.out) | exact HB.out)) hb); clear HO_354005; clear BK349; clear BK350; clear BK353; clear HB; have HO_354005 := n0_; have BK349 := n1_; have BK350 := n2_; have BK353 := n3_; have HB := n4_; clear n0_ n1_ n2_ n3_ n4_; (try clear hb); (try clear hb2); (try clear hk); (try clear hi)))
       go_meet
       case rel => exact ⟨_, ((t359 != 0)), (by first | rfl | (simp; done) | (simp [*]; done)), H', ⟨by have := HK1.out; first | omega | exact Nat.le_refl _⟩, ⟨by (with_reducible repeat (first | apply Kd.R_alloc | apply Kd.R_drewN | apply Kd.R_drew)); exact HO_354005.out⟩, ⟨by (with_reducible repeat (first | refine blk_drewN ?_ _ | refine blk_drew ?_ | refine blk_alloc ?_ _)); exact BK349.out⟩, ⟨by (with_reducible repeat (first | refine blk_drewN ?_ _ | refine blk_drew ?_ | refine blk_alloc ?_ _)); exact BK350.out⟩, ⟨by (with_reducible repeat (first | refine blk_drewN ?_ _ | refine blk_drew ?_ | refine blk_alloc ?_ _)); exact BK353.out⟩, ⟨by repeat (first | (with_reducible first | exact HB.out | apply below_alloc | apply pw_below_drewN | apply below_drew1 | refine below_set ?_ GE349.out | refine below_set ?_ GE350.out | refine below_set ?_ GE353.out) | exact HB.out)⟩⟩
      ·rw [if_neg c31] at H
       have c31b0 : (t358 == 0) = false := beq_eq_false_iff_ne.mpr c31
       have c31b1 : (t358 != 0) = true := bne_iff_ne.mpr c31
       (first | rw [c31b0] | (simp only [i64_w, i32_w]; rw [c31b0]) | skip)
       have H' := Aside0.mk H
       clear H
       have hnb41 := NB349_350.out
       have hnc41 := NB350_349.out
       have hnb42 := NB349_353.out
       have hnc42 := NB353_349.out
       have hcz43_0 : wr.cell? ⟨gb349, 0, none⟩ = some (.int .i64 a0_0) := (blk_cell BK349.out 0).trans rfl
       have hcz43_1 : wr.cell? ⟨gb349, 1, none⟩ = some (.int .i64 a0_1) := (blk_cell BK349.out 1).trans rfl
       have hcz43_2 : wr.cell? ⟨gb349, 2, none⟩ = some (.int .i64 a0_2) := (blk_cell BK349.out 2).trans rfl
       have hcz43_3 : wr.cell? ⟨gb349, 3, none⟩ = some (.int .i64 a0_3) := (blk_cell BK349.out 3).trans rfl
       have hcz43_4 : wr.cell? ⟨gb349, 4, none⟩ = some (.int .i64 a0_4) := (blk_cell BK349.out 4).trans rfl
       have hcz43_5 : wr.cell? ⟨gb349, 5, none⟩ = some (.slice A0_5 l0_5.length c0_5) := (blk_cell BK349.out 5).trans rfl
       have hfz43_0 := blk_frozen BK349.out 0
       have hfz43_1 := blk_frozen BK349.out 1
       have hfz43_2 := blk_frozen BK349.out 2
       have hfz43_3 := blk_frozen BK349.out 3
       have hfz43_4 := blk_frozen BK349.out 4
       have hfz43_5 := blk_frozen BK349.out 5
       go_wp2_with (first | ((with_reducible refine gate_callee (f := 15) rfl ?_); refine goesL_ (some 44) rfl rfl Try.func15 (by kernel_rfl) rfl #[.agg #[.int .i64 a0_0, .int .i64 a0_1, .int .i64 a0_2, .int .i64 a0_3, .int .i64 a0_4, .slice A0_5 l0_5.length c0_5]] rfl (by (try simp only [List.map_toArray, List.map_cons, List.map_nil]); first | done | rfl | (simp only [List.length_drop, List.length_take]; rfl)) ?_; (with_reducible refine (terrain_Check.calls k1 a0_0 a0_1 a0_2 a0_3 a0_4 _ _ l0_5 t358 _ ?side1 ?side2 A30.out).mono ?_); (case side1 => repeat (first | exact (Kd.C_below HR0_5.out HB.out) | (with_reducible refine Kd.C_alloc ?_ _) | (with_reducible refine Kd.C_drewN ?_ _) | (with_reducible refine Kd.C_drew ?_))); (case side2 => exact HC0_5.out); rintro e w44 ⟨rfl, hb⟩; refine ⟨_, rfl, ?_⟩; have n0_ := Aside0.mk (Kd.R_below (by (with_reducible repeat (first | apply Kd.R_alloc | apply Kd.R_drewN | apply Kd.R_drew)); exact HO_354005.out) hb); have n1_ := Aside0.mk (blk_below (g := gb349) (o := .cells #[.int .i64 a0_0, .int .i64 a0_1, .int .i64 a0_2, .int .i64 a0_3, .int .i64 a0_4, .slice A0_5 l0_5.length c0_5] 26 (0, 0)) (by (with_reducible repeat (first | refine blk_drewN ?_ _ | refine blk_drew ?_ | refine blk_alloc ?_ _)); exact BK349.out) hb); have n2_ := Aside0.mk (blk_below (g := gb350) (o := .cells #[.int .i64 a2_0, .int .i64 a2_1] 23 (0, 0)) (by (with_reducible repeat (first | refine blk_drewN ?_ _ | refine blk_drew ?_ | refine blk_alloc ?_ _)); exact BK350.out) hb); have n3_ := Aside0.mk (blk_below (g := gb353) (o := .cells #[.int .i64 a0_0, .int .i64 a0_1, .int .i64 a0_2, .int .i64 a0_3, .int .i64 a0_4, u354005] 26 (0, 0)) (by (with_reducible repeat (first | refine blk_drewN ?_ _ | refine blk_drew ?_ | refine blk_alloc ?_ _)); exact BK353.out) hb); have n4_ := Aside0.mk (below_step (by repeat (first | (with_reducible first | exact HB.out | apply below_alloc | apply pw_below_drewN | apply below_drew1 | refine below_set ?_ GE349.out | refine below_set ?_ GE350.out | refine below_set ?_ GE353.out) | exact HB.out)) hb); clear HO_354005; clear BK349; clear BK350; clear BK353; clear HB; have HO_354005 := n0_; have BK349 := n1_; have BK350 := n2_; have BK353 := n3_; have HB := n4_; clear n0_ n1_ n2_ n3_ n4_; (try clear hb); (try clear hb2); (try clear hk); (try clear hi)))
       go_meet
       case rel => exact ⟨_, (true), (by first | rfl | (simp; done) | (simp [*]; done)), H', ⟨by have := HK1.out; first | omega | exact Nat.le_refl _⟩, ⟨by (with_reducible repeat (first | apply Kd.R_alloc | apply Kd.R_drewN | apply Kd.R_drew)); exact HO_354005.out⟩, ⟨by (with_reducible repeat (first | refine blk_drewN ?_ _ | refine blk_drew ?_ | refine blk_alloc ?_ _)); exact BK349.out⟩, ⟨by (with_reducible repeat (first | refine blk_drewN ?_ _ | refine blk_drew ?_ | refine blk_alloc ?_ _)); exact BK350.out⟩, ⟨by (with_reducible repeat (first | refine blk_drewN ?_ _ | refine blk_drew ?_ | refine blk_alloc ?_ _)); exact BK353.out⟩, ⟨by repeat (first | (with_reducible first | exact HB.out | apply below_alloc | apply pw_below_drewN | apply below_drew1 | refine below_set ?_ GE349.out | refine below_set ?_ GE350.out | refine below_set ?_ GE353.out) | exact HB.out)⟩⟩
     case rest =>
      clear HC26
      try clear c1
      try clear c2
      try clear p2
      try clear c3
      try clear p3
      try clear q3
      try clear hx3
      try clear c4
      try clear c5
      try clear c6
      try clear p6
      try clear c8
      try clear c9
      try clear c13
      try clear c14
      try clear c15
      try clear c16
      try clear c16b0
      try clear c17
      try clear c17b0
      try clear c18
      try clear c19
      try clear c20
      try clear c27
      try clear c28
      try clear c31
      try clear c31b0
      try clear c31b1
      try clear c33
      try clear c34
      try clear p35
      try clear q35
      try clear hx35
      try clear c37
      try clear c41
      try clear c42
      try clear hcz11_0
      try clear hcz11_1
      try clear hcz11_2
      try clear hcz11_3
      try clear hcz11_4
      try clear hcz11_5
      try clear hcz15_0
      try clear hcz15_1
      try clear hcz15_2
      try clear hcz15_3
      try clear hcz15_4
      try clear hcz15_5
      try clear hcz21_0
      try clear hcz21_1
      try clear hcz21_2
      try clear hcz21_3
      try clear hcz21_4
      try clear hcz21_5
      try clear hcz29_0
      try clear hcz29_1
      try clear hcz29_2
      try clear hcz29_3
      try clear hcz29_4
      try clear hcz29_5
      try clear hcz35_0
      try clear hcz35_1
      try clear hcz35_2
      try clear hcz35_3
      try clear hcz35_4
      try clear hcz35_5
      try clear hcz38_0
      try clear hcz38_1
      try clear hcz38_2
      try clear hcz38_3
      try clear hcz38_4
      try clear hcz38_5
      try clear hcz43_0
      try clear hcz43_1
      try clear hcz43_2
      try clear hcz43_3
      try clear hcz43_4
      try clear hcz43_5
      try clear hcz9_0
      try clear hcz9_1
      try clear hcz9_2
      try clear hcz9_3
      try clear hcz9_4
      try clear hcz9_5
      try clear hfz11_0
      try clear hfz11_1
      try clear hfz11_2
      try clear hfz11_3
      try clear hfz11_4
      try clear hfz11_5
      try clear hfz15_0
      try clear hfz15_1
      try clear hfz15_2
      try clear hfz15_3
      try clear hfz15_4
      try clear hfz15_5
      try clear hfz21_0
      try clear hfz21_1
      try clear hfz21_2
      try clear hfz21_3
      try clear hfz21_4
      try clear hfz21_5
      try clear hfz29_0
      try clear hfz29_1
      try clear hfz29_2
      try clear hfz29_3
      try clear hfz29_4
      try clear hfz29_5
      try clear hfz35_0
      try clear hfz35_1
      try clear hfz35_2
      try clear hfz35_3
      try clear hfz35_4
      try clear hfz35_5
      try clear hfz38_0
      try clear hfz38_1
      try clear hfz38_2
      try clear hfz38_3
      try clear hfz38_4
      try clear hfz38_5
      try clear hfz43_0
      try clear hfz43_1
      try clear hfz43_2
      try clear hfz43_3
      try clear hfz43_4
      try clear hfz43_5
      try clear hfz9_0
      try clear hfz9_1
      try clear hfz9_2
      try clear hfz9_3
      try clear hfz9_4
      try clear hfz9_5
      try clear hx354_0
      try clear p2
      try clear p354
      try clear q354
      obtain ⟨kq, x50_25, rfl, HA, HJ25, HO_354005, BK349, BK350, BK353, HB⟩ := hcut
      cases kq with
      | zero => exact absurd HA.out (by simp [mapsheetslaw43_TerrainRises.j1])
      | succ kj25 =>
       have H := HA.out
       clear HA
       simp only [mapsheetslaw43_TerrainRises.j1] at H
       by_cases c45 : x50_25 = true
       ·subst c45
        have H1 : ((mapsheetslaw43_awake.f kj25).bind fun t360 => (some t360)) = some r := by rw [if_pos rfl] at H; exact H
        clear H
        have H := H1
        clear H1
        replace H := Option.bind_eq_some_iff.mp H
        obtain ⟨t360, A460, H⟩ := H
        replace H : (some t360) = some r := H
        have A46 := Aside0.mk A460
        clear A460
        obtain rfl := Option.some.inj H
        go_wp2_with (first | ((with_reducible refine gate_callee (f := 10) rfl ?_); refine goesL_ (some 51) rfl rfl Try.func10 (by kernel_rfl) rfl #[] rfl (by (try simp only [List.map_toArray, List.map_cons, List.map_nil]); first | done | rfl | (simp only [List.length_drop, List.length_take]; rfl)) ?_; (with_reducible refine (mapsheetslaw43_awake.calls kj25  t360 _ A46.out).mono ?_); rintro e w47 ⟨rfl, hb⟩; refine ⟨_, rfl, ?_⟩; have n0_ := Aside0.mk (Kd.R_below (by (with_reducible repeat (first | apply Kd.R_alloc | apply Kd.R_drewN | apply Kd.R_drew)); exact HO_354005.out) hb); have n1_ := Aside0.mk (blk_below (g := gb349) (o := .cells #[.int .i64 a0_0, .int .i64 a0_1, .int .i64 a0_2, .int .i64 a0_3, .int .i64 a0_4, .slice A0_5 l0_5.length c0_5] 26 (0, 0)) (by (with_reducible repeat (first | refine blk_drewN ?_ _ | refine blk_drew ?_ | refine blk_alloc ?_ _)); exact BK349.out) hb); have n2_ := Aside0.mk (blk_below (g := gb350) (o := .cells #[.int .i64 a2_0, .int .i64 a2_1] 23 (0, 0)) (by (with_reducible repeat (first | refine blk_drewN ?_ _ | refine blk_drew ?_ | refine blk_alloc ?_ _)); exact BK350.out) hb); have n3_ := Aside0.mk (blk_below (g := gb353) (o := .cells #[.int .i64 a0_0, .int .i64 a0_1, .int .i64 a0_2, .int .i64 a0_3, .int .i64 a0_4, u354005] 26 (0, 0)) (by (with_reducible repeat (first | refine blk_drewN ?_ _ | refine blk_drew ?_ | refine blk_alloc ?_ _)); exact BK353.out) hb); have n4_ := Aside0.mk (below_step (by repeat (first | (with_reducible first | exact HB.out | apply below_alloc | apply pw_below_drewN | apply below_drew1 | refine below_set ?_ GE349.out | refine below_set ?_ GE350.out | refine below_set ?_ GE353.out) | exact HB.out)) hb); clear HO_354005; clear BK349; clear BK350; clear BK353; clear HB; have HO_354005 := n0_; have BK349 := n1_; have BK350 := n2_; have BK353 := n3_; have HB := n4_; clear n0_ n1_ n2_ n3_ n4_; (try clear hb); (try clear hb2); (try clear hk); (try clear hi)))
        go_ret
        exact ⟨by first | rfl | (simp [errW_none, errW_some] <;> rfl) | (simp [*, errW_none, errW_some] <;> rfl), by repeat (first | (with_reducible first | exact HB.out | apply below_alloc | apply pw_below_drewN | apply below_drew1 | refine below_set ?_ GE349.out | refine below_set ?_ GE350.out | refine below_set ?_ GE353.out) | exact HB.out)⟩
       ·replace c45 := Bool.eq_false_iff.mpr c45
        subst c45
        have H1 : ((terrain_Height.f kj25 a0_0 a0_1 a0_2 a0_3 a0_4 l0_5 a2_0 a2_1).bind fun bt361 => ((terrain_Height.f kj25 a0_0 a0_1 a0_2 a0_3 a0_4 x354005_1 a2_0 a2_1).bind fun bt365 => ((terrain_Peaks.f kj25 a0_0 a0_1 a0_2 a0_3 a0_4 l0_5).bind fun bt369 => ((terrain_Peaks.f kj25 a0_0 a0_1 a0_2 a0_3 a0_4 x354005_1).bind fun bt373 => ((mapsheetslaw43_awake.f kj25).bind fun t377 => (if t377 = true then (if bt361.2.2 = bt365.2.2 then (if bt365.2.1 = bt361.2.1 then (if bt365.1 = (wrap64 (bt361.1 + (wrap64 ((wrap64 (a1)) * bt361.2.1)))) then ((mapsheetsref43_Same.f kj25 bt369.1 bt373.1).bind fun t378 => (if t378 = true then (if bt369.2 = 0 then (some (bt373.2 == 0)) else (none)) else (none))) else (none)) else (none)) else (none)) else (none))))))) = some r := by rw [if_neg (show ¬ (false = true) by decide)] at H; exact H
        clear H
        have H := H1
        clear H1
        replace H := Option.bind_eq_some_iff.mp H
        obtain ⟨⟨t361, t362, t363⟩, A480, H⟩ := H
        replace H : ((terrain_Height.f kj25 a0_0 a0_1 a0_2 a0_3 a0_4 x354005_1 a2_0 a2_1).bind fun bt365 => ((terrain_Peaks.f kj25 a0_0 a0_1 a0_2 a0_3 a0_4 l0_5).bind fun bt369 => ((terrain_Peaks.f kj25 a0_0 a0_1 a0_2 a0_3 a0_4 x354005_1).bind fun bt373 => ((mapsheetslaw43_awake.f kj25).bind fun t377 => (if t377 = true then (if t363 = bt365.2.2 then (if bt365.2.1 = t362 then (if bt365.1 = (wrap64 (t361 + (wrap64 ((wrap64 (a1)) * t362)))) then ((mapsheetsref43_Same.f kj25 bt369.1 bt373.1).bind fun t378 => (if t378 = true then (if bt369.2 = 0 then (some (bt373.2 == 0)) else (none)) else (none))) else (none)) else (none)) else (none)) else (none)))))) = some r := H
        have A48 := Aside0.mk A480
        clear A480
        replace H := Option.bind_eq_some_iff.mp H
        obtain ⟨⟨t365, t366, t367⟩, A490, H⟩ := H
        replace H : ((terrain_Peaks.f kj25 a0_0 a0_1 a0_2 a0_3 a0_4 l0_5).bind fun bt369 => ((terrain_Peaks.f kj25 a0_0 a0_1 a0_2 a0_3 a0_4 x354005_1).bind fun bt373 => ((mapsheetslaw43_awake.f kj25).bind fun t377 => (if t377 = true then (if t363 = t367 then (if t366 = t362 then (if t365 = (wrap64 (t361 + (wrap64 ((wrap64 (a1)) * t362)))) then ((mapsheetsref43_Same.f kj25 bt369.1 bt373.1).bind fun t378 => (if t378 = true then (if bt369.2 = 0 then (some (bt373.2 == 0)) else (none)) else (none))) else (none)) else (none)) else (none)) else (none))))) = some r := H
        have A49 := Aside0.mk A490
        clear A490
        replace H := Option.bind_eq_some_iff.mp H
        obtain ⟨⟨t369, t372⟩, A500, H⟩ := H
        replace H : ((terrain_Peaks.f kj25 a0_0 a0_1 a0_2 a0_3 a0_4 x354005_1).bind fun bt373 => ((mapsheetslaw43_awake.f kj25).bind fun t377 => (if t377 = true then (if t363 = t367 then (if t366 = t362 then (if t365 = (wrap64 (t361 + (wrap64 ((wrap64 (a1)) * t362)))) then ((mapsheetsref43_Same.f kj25 t369 bt373.1).bind fun t378 => (if t378 = true then (if t372 = 0 then (some (bt373.2 == 0)) else (none)) else (none))) else (none)) else (none)) else (none)) else (none)))) = some r := H
        have A50 := Aside0.mk A500
        clear A500
        replace H := Option.bind_eq_some_iff.mp H
        obtain ⟨⟨t373, t376⟩, A510, H⟩ := H
        replace H : ((mapsheetslaw43_awake.f kj25).bind fun t377 => (if t377 = true then (if t363 = t367 then (if t366 = t362 then (if t365 = (wrap64 (t361 + (wrap64 ((wrap64 (a1)) * t362)))) then ((mapsheetsref43_Same.f kj25 t369 t373).bind fun t378 => (if t378 = true then (if t372 = 0 then (some (t376 == 0)) else (none)) else (none))) else (none)) else (none)) else (none)) else (none))) = some r := H
        have A51 := Aside0.mk A510
        clear A510
        replace H := Option.bind_eq_some_iff.mp H
        obtain ⟨t377, A520, H⟩ := H
        replace H : (if t377 = true then (if t363 = t367 then (if t366 = t362 then (if t365 = (wrap64 (t361 + (wrap64 ((wrap64 (a1)) * t362)))) then ((mapsheetsref43_Same.f kj25 t369 t373).bind fun t378 => (if t378 = true then (if t372 = 0 then (some (t376 == 0)) else (none)) else (none))) else (none)) else (none)) else (none)) else (none)) = some r := H
        have A52 := Aside0.mk A520
        clear A520
        by_cases c53 : t377 = true
        ·subst c53
         have H1 : (if t363 = t367 then (if t366 = t362 then (if t365 = (wrap64 (t361 + (wrap64 ((wrap64 (a1)) * t362)))) then ((mapsheetsref43_Same.f kj25 t369 t373).bind fun t378 => (if t378 = true then (if t372 = 0 then (some (t376 == 0)) else (none)) else (none))) else (none)) else (none)) else (none)) = some r := by rw [if_pos rfl] at H; exact H
         clear H
         have H := H1
         clear H1
         by_cases c54 : t363 = t367
         ·rw [if_pos c54] at H
          have c54b0 : (t363 == t367) = true := beq_iff_eq.mpr c54
          have c54b1 : (t363 != t367) = false := bne_eq_false_iff_eq.mpr c54
          clear c54
          by_cases c55 : t366 = t362
          ·rw [if_pos c55] at H
           have c55b0 : (t366 == t362) = true := beq_iff_eq.mpr c55
           have c55b1 : (t366 != t362) = false := bne_eq_false_iff_eq.mpr c55
           clear c55
           by_cases c56 : t365 = (wrap64 (t361 + (wrap64 ((wrap64 (a1)) * t362))))
           ·rw [if_pos c56] at H
            have c56b0 : (t365 == (wrap64 (t361 + (wrap64 ((wrap64 (a1)) * t362))))) = true := beq_iff_eq.mpr c56
            have c56b1 : (t365 != (wrap64 (t361 + (wrap64 ((wrap64 (a1)) * t362))))) = false := bne_eq_false_iff_eq.mpr c56
            clear c56
            replace H := Option.bind_eq_some_iff.mp H
            obtain ⟨t378, A570, H⟩ := H
            replace H : (if t378 = true then (if t372 = 0 then (some (t376 == 0)) else (none)) else (none)) = some r := H
            have A57 := Aside0.mk A570
            clear A570
            by_cases c58 : t378 = true
            ·subst c58
             have H1 : (if t372 = 0 then (some (t376 == 0)) else (none)) = some r := by rw [if_pos rfl] at H; exact H
             clear H
             have H := H1
             clear H1
             by_cases c59 : t372 = 0
             ·rw [if_pos c59] at H
              have c59b0 : (t372 == 0) = true := beq_iff_eq.mpr c59
              have c59b1 : (t372 != 0) = false := bne_eq_false_iff_eq.mpr c59
              clear c59
              obtain rfl := Option.some.inj H
              have hnb60 := NB349_350.out
              have hnc60 := NB350_349.out
              have hnb61 := NB349_353.out
              have hnc61 := NB353_349.out
              have hcz62_0 : wc.cell? ⟨gb349, 0, none⟩ = some (.int .i64 a0_0) := (blk_cell BK349.out 0).trans rfl
              have hcz62_1 : wc.cell? ⟨gb349, 1, none⟩ = some (.int .i64 a0_1) := (blk_cell BK349.out 1).trans rfl
              have hcz62_2 : wc.cell? ⟨gb349, 2, none⟩ = some (.int .i64 a0_2) := (blk_cell BK349.out 2).trans rfl
              have hcz62_3 : wc.cell? ⟨gb349, 3, none⟩ = some (.int .i64 a0_3) := (blk_cell BK349.out 3).trans rfl
              have hcz62_4 : wc.cell? ⟨gb349, 4, none⟩ = some (.int .i64 a0_4) := (blk_cell BK349.out 4).trans rfl
              have hcz62_5 : wc.cell? ⟨gb349, 5, none⟩ = some (.slice A0_5 l0_5.length c0_5) := (blk_cell BK349.out 5).trans rfl
              have hfz62_0 := blk_frozen BK349.out 0
              have hfz62_1 := blk_frozen BK349.out 1
              have hfz62_2 := blk_frozen BK349.out 2
              have hfz62_3 := blk_frozen BK349.out 3
              have hfz62_4 := blk_frozen BK349.out 4
              have hfz62_5 := blk_frozen BK349.out 5
              have hnb63 := NB350_353.out
              have hnc63 := NB353_350.out
              have hcz64_0 : wc.cell? ⟨gb350, 0, none⟩ = some (.int .i64 a2_0) := (blk_cell BK350.out 0).trans rfl
              have hcz64_1 : wc.cell? ⟨gb350, 1, none⟩ = some (.int .i64 a2_1) := (blk_cell BK350.out 1).trans rfl
              have hfz64_0 := blk_frozen BK350.out 0
              have hfz64_1 := blk_frozen BK350.out 1
              go_wp2_with (first | ((with_reducible refine gate_callee (f := 17) rfl ?_); refine goesL_ (some 55) rfl rfl Try.func17 (by kernel_rfl) rfl #[.agg #[.int .i64 a0_0, .int .i64 a0_1, .int .i64 a0_2, .int .i64 a0_3, .int .i64 a0_4, .slice A0_5 l0_5.length c0_5], .agg #[.int .i64 a2_0, .int .i64 a2_1]] rfl (by (try simp only [List.map_toArray, List.map_cons, List.map_nil]); first | done | rfl | (simp only [List.length_drop, List.length_take]; rfl)) ?_; (with_reducible refine (terrain_Height.calls kj25 a0_0 a0_1 a0_2 a0_3 a0_4 _ _ l0_5 a2_0 a2_1 t361 t362 t363 _ ?side1 ?side2 A48.out).mono ?_); (case side1 => repeat (first | exact (Kd.C_below HR0_5.out HB.out) | (with_reducible refine Kd.C_alloc ?_ _) | (with_reducible refine Kd.C_drewN ?_ _) | (with_reducible refine Kd.C_drew ?_))); (case side2 => exact HC0_5.out); rintro e w65 ⟨rfl, hb⟩; refine ⟨_, rfl, ?_⟩; have n0_ := Aside0.mk (Kd.R_below (by (with_reducible repeat (first | apply Kd.R_alloc | apply Kd.R_drewN | apply Kd.R_drew)); exact HO_354005.out) hb); have n1_ := Aside0.mk (blk_below (g := gb349) (o := .cells #[.int .i64 a0_0, .int .i64 a0_1, .int .i64 a0_2, .int .i64 a0_3, .int .i64 a0_4, .slice A0_5 l0_5.length c0_5] 26 (0, 0)) (by (with_reducible repeat (first | refine blk_drewN ?_ _ | refine blk_drew ?_ | refine blk_alloc ?_ _)); exact BK349.out) hb); have n2_ := Aside0.mk (blk_below (g := gb350) (o := .cells #[.int .i64 a2_0, .int .i64 a2_1] 23 (0, 0)) (by (with_reducible repeat (first | refine blk_drewN ?_ _ | refine blk_drew ?_ | refine blk_alloc ?_ _)); exact BK350.out) hb); have n3_ := Aside0.mk (blk_below (g := gb353) (o := .cells #[.int .i64 a0_0, .int .i64 a0_1, .int .i64 a0_2, .int .i64 a0_3, .int .i64 a0_4, u354005] 26 (0, 0)) (by (with_reducible repeat (first | refine blk_drewN ?_ _ | refine blk_drew ?_ | refine blk_alloc ?_ _)); exact BK353.out) hb); have n4_ := Aside0.mk (below_step (by repeat (first | (with_reducible first | exact HB.out | apply below_alloc | apply pw_below_drewN | apply below_drew1 | refine below_set ?_ GE349.out | refine below_set ?_ GE350.out | refine below_set ?_ GE353.out) | exact HB.out)) hb); clear HO_354005; clear BK349; clear BK350; clear BK353; clear HB; have HO_354005 := n0_; have BK349 := n1_; have BK350 := n2_; have BK353 := n3_; have HB := n4_; clear n0_ n1_ n2_ n3_ n4_; (try clear hb); (try clear hb2); (try clear hk); (try clear hi)) | ((with_reducible refine gate_dst (N := 9) rfl ?_); refine box_event ?hg (N := 9) ?hd (cs := #[.int .i64 0, .int .i64 0]) (t := 37) ?hr ?_; (case hd => rfl); (case hg => rfl); (case hr => first | (go_simp; done) | (go_simp; rfl)); intro gb364 hg w66 hbox hb; have n0_ := Aside0.mk (Kd.R_below (by (with_reducible repeat (first | apply Kd.R_alloc | apply Kd.R_drewN | apply Kd.R_drew)); exact HO_354005.out) hb); have n1_ := Aside0.mk (blk_below (g := gb349) (o := .cells #[.int .i64 a0_0, .int .i64 a0_1, .int .i64 a0_2, .int .i64 a0_3, .int .i64 a0_4, .slice A0_5 l0_5.length c0_5] 26 (0, 0)) (by (with_reducible repeat (first | refine blk_drewN ?_ _ | refine blk_drew ?_ | refine blk_alloc ?_ _)); exact BK349.out) hb); have n2_ := Aside0.mk (blk_below (g := gb350) (o := .cells #[.int .i64 a2_0, .int .i64 a2_1] 23 (0, 0)) (by (with_reducible repeat (first | refine blk_drewN ?_ _ | refine blk_drew ?_ | refine blk_alloc ?_ _)); exact BK350.out) hb); have n3_ := Aside0.mk (blk_below (g := gb353) (o := .cells #[.int .i64 a0_0, .int .i64 a0_1, .int .i64 a0_2, .int .i64 a0_3, .int .i64 a0_4, u354005] 26 (0, 0)) (by (with_reducible repeat (first | refine blk_drewN ?_ _ | refine blk_drew ?_ | refine blk_alloc ?_ _)); exact BK353.out) hb); have n4_ := Aside0.mk (below_step (by repeat (first | (with_reducible first | exact HB.out | apply below_alloc | apply pw_below_drewN | apply below_drew1 | refine below_set ?_ GE349.out | refine below_set ?_ GE350.out | refine below_set ?_ GE353.out) | exact HB.out)) hb); have n5_ := Aside0.mk (hbox); have n6_ := Aside0.mk ((by rw [hg]; exact (below_size (by repeat (first | (with_reducible first | exact HB.out | apply below_alloc | apply pw_below_drewN | apply below_drew1 | refine below_set ?_ GE349.out | refine below_set ?_ GE350.out | refine below_set ?_ GE353.out) | exact HB.out))) : w.heap.size ≤ gb364)); have n7_ := Aside0.mk ((by rw [hg]; exact (below_size (by repeat (first | (with_reducible first | exact HB.out | apply below_alloc | apply pw_below_drewN | apply below_drew1 | refine below_set ?_ GE349.out | refine below_set ?_ GE350.out | refine below_set ?_ GE353.out) | exact HB.out))) : w.heap.size ≤ gb364)); have n8_ := Aside0.mk ((by rw [hg]; exact Nat.ne_of_lt (blk_lt (g := gb349) (o := .cells #[.int .i64 a0_0, .int .i64 a0_1, .int .i64 a0_2, .int .i64 a0_3, .int .i64 a0_4, .slice A0_5 l0_5.length c0_5] 26 (0, 0)) (by (with_reducible repeat (first | refine blk_drewN ?_ _ | refine blk_drew ?_ | refine blk_alloc ?_ _)); exact BK349.out)) : gb349 ≠ gb364)); have n9_ := Aside0.mk ((by rw [hg]; exact Nat.ne_of_gt (blk_lt (g := gb349) (o := .cells #[.int .i64 a0_0, .int .i64 a0_1, .int .i64 a0_2, .int .i64 a0_3, .int .i64 a0_4, .slice A0_5 l0_5.length c0_5] 26 (0, 0)) (by (with_reducible repeat (first | refine blk_drewN ?_ _ | refine blk_drew ?_ | refine blk_alloc ?_ _)); exact BK349.out)) : gb364 ≠ gb349)); have n10_ := Aside0.mk ((by rw [hg]; exact Nat.ne_of_lt (blk_lt (g := gb350) (o := .cells #[.int .i64 a2_0, .int .i64 a2_1] 23 (0, 0)) (by (with_reducible repeat (first | refine blk_drewN ?_ _ | refine blk_drew ?_ | refine blk_alloc ?_ _)); exact BK350.out)) : gb350 ≠ gb364)); have n11_ := Aside0.mk ((by rw [hg]; exact Nat.ne_of_gt (blk_lt (g := gb350) (o := .cells #[.int .i64 a2_0, .int .i64 a2_1] 23 (0, 0)) (by (with_reducible repeat (first | refine blk_drewN ?_ _ | refine blk_drew ?_ | refine blk_alloc ?_ _)); exact BK350.out)) : gb364 ≠ gb350)); have n12_ := Aside0.mk ((by rw [hg]; exact Nat.ne_of_lt (blk_lt (g := gb353) (o := .cells #[.int .i64 a0_0, .int .i64 a0_1, .int .i64 a0_2, .int .i64 a0_3, .int .i64 a0_4, u354005] 26 (0, 0)) (by (with_reducible repeat (first | refine blk_drewN ?_ _ | refine blk_drew ?_ | refine blk_alloc ?_ _)); exact BK353.out)) : gb353 ≠ gb364)); have n13_ := Aside0.mk ((by rw [hg]; exact Nat.ne_of_gt (blk_lt (g := gb353) (o := .cells #[.int .i64 a0_0, .int .i64 a0_1, .int .i64 a0_2, .int .i64 a0_3, .int .i64 a0_4, u354005] 26 (0, 0)) (by (with_reducible repeat (first | refine blk_drewN ?_ _ | refine blk_drew ?_ | refine blk_alloc ?_ _)); exact BK353.out)) : gb364 ≠ gb353)); clear HO_354005; clear BK349; clear BK350; clear BK353; clear HB; have HO_354005 := n0_; have BK349 := n1_; have BK350 := n2_; have BK353 := n3_; have HB := n4_; have BK364 := n5_; have GW364 := n6_; have GE364 := n7_; have NB349_364 := n8_; have NB364_349 := n9_; have NB350_364 := n10_; have NB364_350 := n11_; have NB353_364 := n12_; have NB364_353 := n13_; clear n0_ n1_ n2_ n3_ n4_ n5_ n6_ n7_ n8_ n9_ n10_ n11_ n12_ n13_; clear hb hbox hg; have hnb67 := NB364_349.out; have hnc67 := NB349_364.out; have hnb68 := NB364_350.out; have hnc68 := NB350_364.out; have hnb69 := NB364_353.out; have hnc69 := NB353_364.out; have hcz70_0 : w66.cell? ⟨gb364, 0, none⟩ = some (.int .i64 0) := (blk_cell BK364.out 0).trans rfl; have hcz70_1 : w66.cell? ⟨gb364, 1, none⟩ = some (.int .i64 0) := (blk_cell BK364.out 1).trans rfl; have hfz70_0 := blk_frozen BK364.out 0; have hfz70_1 := blk_frozen BK364.out 1; have hcz71_0 : w66.cell? ⟨gb353, 0, none⟩ = some (.int .i64 a0_0) := (blk_cell BK353.out 0).trans rfl; have hcz71_1 : w66.cell? ⟨gb353, 1, none⟩ = some (.int .i64 a0_1) := (blk_cell BK353.out 1).trans rfl; have hcz71_2 : w66.cell? ⟨gb353, 2, none⟩ = some (.int .i64 a0_2) := (blk_cell BK353.out 2).trans rfl; have hcz71_3 : w66.cell? ⟨gb353, 3, none⟩ = some (.int .i64 a0_3) := (blk_cell BK353.out 3).trans rfl; have hcz71_4 : w66.cell? ⟨gb353, 4, none⟩ = some (.int .i64 a0_4) := (blk_cell BK353.out 4).trans rfl; have hcz71_5 : w66.cell? ⟨gb353, 5, none⟩ = some (u354005) := (blk_cell BK353.out 5).trans rfl; have hfz71_0 := blk_frozen BK353.out 0; have hfz71_1 := blk_frozen BK353.out 1; have hfz71_2 := blk_frozen BK353.out 2; have hfz71_3 := blk_frozen BK353.out 3; have hfz71_4 := blk_frozen BK353.out 4; have hfz71_5 := blk_frozen BK353.out 5; have hcz72_0 : w66.cell? ⟨gb350, 0, none⟩ = some (.int .i64 a2_0) := (blk_cell BK350.out 0).trans rfl; have hcz72_1 : w66.cell? ⟨gb350, 1, none⟩ = some (.int .i64 a2_1) := (blk_cell BK350.out 1).trans rfl; have hfz72_0 := blk_frozen BK350.out 0; have hfz72_1 := blk_frozen BK350.out 1; obtain ⟨Ao73, co73, eo73⟩ := Kd.R_slice HO_354005.out; subst eo73) | ((with_reducible refine gate_callee (f := 17) rfl ?_); refine goesL_ (some 61) rfl rfl Try.func17 (by kernel_rfl) rfl #[.agg #[.int .i64 a0_0, .int .i64 a0_1, .int .i64 a0_2, .int .i64 a0_3, .int .i64 a0_4, .slice Ao73 x354005_1.length co73], .agg #[.int .i64 a2_0, .int .i64 a2_1]] rfl (by (try simp only [List.map_toArray, List.map_cons, List.map_nil]); first | done | rfl | (simp only [List.length_drop, List.length_take]; rfl)) ?_; (with_reducible refine (terrain_Height.calls kj25 a0_0 a0_1 a0_2 a0_3 a0_4 _ _ x354005_1 a2_0 a2_1 t365 t366 t367 _ ?side1 ?side2 A49.out).mono ?_); (case side1 => refine (Kd.R_reads' (e := 3) (base := w.heap.size) (ok := fun k_ => True) (n := x354005_1.length) (c := co73) ?_).2.2; exact (by (with_reducible repeat (first | apply Kd.R_alloc | apply Kd.R_drewN | apply Kd.R_drew)); exact (Kd.R_mono (Kd.R_far (p := ⟨gb364, 1, none⟩) (Kd.R_far (p := ⟨gb364, 0, none⟩) (Kd.R_types HO_354005.out BK364.out (by decide)) (fun _ hk => hk.2) (.int .i64 t361)) (fun _ hk => hk.2) (.int .i64 t362)) (fun _ h_ => h_.1)))); (case side2 => exact (Kd.R_reads' HO_354005.out).2.1); rintro e w74 ⟨rfl, hb⟩; refine ⟨_, rfl, ?_⟩; have n0_ := Aside0.mk (Kd.R_below (by (with_reducible repeat (first | apply Kd.R_alloc | apply Kd.R_drewN | apply Kd.R_drew)); exact (Kd.R_mono (Kd.R_far (p := ⟨gb364, 1, none⟩) (Kd.R_far (p := ⟨gb364, 0, none⟩) (Kd.R_types HO_354005.out BK364.out (by decide)) (fun _ hk => hk.2) (.int .i64 t361)) (fun _ hk => hk.2) (.int .i64 t362)) (fun _ h_ => h_.1))) hb); have n1_ := Aside0.mk (blk_below (g := gb349) (o := .cells #[.int .i64 a0_0, .int .i64 a0_1, .int .i64 a0_2, .int .i64 a0_3, .int .i64 a0_4, .slice A0_5 l0_5.length c0_5] 26 (0, 0)) (by (with_reducible repeat (first | refine blk_drewN ?_ _ | refine blk_drew ?_ | refine blk_alloc ?_ _)); refine blk_far ?_ NB349_364.out _; (with_reducible repeat (first | refine blk_drewN ?_ _ | refine blk_drew ?_ | refine blk_alloc ?_ _)); refine blk_far ?_ NB349_364.out _; (with_reducible repeat (first | refine blk_drewN ?_ _ | refine blk_drew ?_ | refine blk_alloc ?_ _)); exact BK349.out) hb); have n2_ := Aside0.mk (blk_below (g := gb350) (o := .cells #[.int .i64 a2_0, .int .i64 a2_1] 23 (0, 0)) (by (with_reducible repeat (first | refine blk_drewN ?_ _ | refine blk_drew ?_ | refine blk_alloc ?_ _)); refine blk_far ?_ NB350_364.out _; (with_reducible repeat (first | refine blk_drewN ?_ _ | refine blk_drew ?_ | refine blk_alloc ?_ _)); refine blk_far ?_ NB350_364.out _; (with_reducible repeat (first | refine blk_drewN ?_ _ | refine blk_drew ?_ | refine blk_alloc ?_ _)); exact BK350.out) hb); have n3_ := Aside0.mk (blk_below (g := gb353) (o := .cells #[.int .i64 a0_0, .int .i64 a0_1, .int .i64 a0_2, .int .i64 a0_3, .int .i64 a0_4, .slice Ao73 x354005_1.length co73] 26 (0, 0)) (by (with_reducible repeat (first | refine blk_drewN ?_ _ | refine blk_drew ?_ | refine blk_alloc ?_ _)); refine blk_far ?_ NB353_364.out _; (with_reducible repeat (first | refine blk_drewN ?_ _ | refine blk_drew ?_ | refine blk_alloc ?_ _)); refine blk_far ?_ NB353_364.out _; (with_reducible repeat (first | refine blk_drewN ?_ _ | refine blk_drew ?_ | refine blk_alloc ?_ _)); exact BK353.out) hb); have n4_ := Aside0.mk (blk_below (g := gb364) (o := .cells #[.int .i64 t361, .int .i64 t362] 37 (0, 0)) (by (with_reducible repeat (first | refine blk_drewN ?_ _ | refine blk_drew ?_ | refine blk_alloc ?_ _)); refine blk_put (cs := #[.int .i64 t361, .int .i64 0]) ?_ 1 _ rfl; (with_reducible repeat (first | refine blk_drewN ?_ _ | refine blk_drew ?_ | refine blk_alloc ?_ _)); refine blk_put (cs := #[.int .i64 0, .int .i64 0]) ?_ 0 _ rfl; (with_reducible repeat (first | refine blk_drewN ?_ _ | refine blk_drew ?_ | refine blk_alloc ?_ _)); exact BK364.out) hb); have n5_ := Aside0.mk (below_step (by repeat (first | (with_reducible first | exact HB.out | apply below_alloc | apply pw_below_drewN | apply below_drew1 | refine below_set ?_ GE349.out | refine below_set ?_ GE350.out | refine below_set ?_ GE353.out | refine below_set ?_ GE364.out) | exact HB.out)) hb); clear HO_354005; clear BK349; clear BK350; clear BK353; clear BK364; clear HB; have HO_354005 := n0_; have BK349 := n1_; have BK350 := n2_; have BK353 := n3_; have BK364 := n4_; have HB := n5_; clear n0_ n1_ n2_ n3_ n4_ n5_; (try clear hb); (try clear hb2); (try clear hk); (try clear hi)) | ((with_reducible refine gate_dst (N := 11) rfl ?_); refine box_event ?hg (N := 11) ?hd (cs := #[.int .i64 0, .int .i64 0]) (t := 37) ?hr ?_; (case hd => rfl); (case hg => rfl); (case hr => first | (go_simp; done) | (go_simp; rfl)); intro gb368 hg w75 hbox hb; have n0_ := Aside0.mk (Kd.R_below (by (with_reducible repeat (first | apply Kd.R_alloc | apply Kd.R_drewN | apply Kd.R_drew)); exact HO_354005.out) hb); have n1_ := Aside0.mk (blk_below (g := gb349) (o := .cells #[.int .i64 a0_0, .int .i64 a0_1, .int .i64 a0_2, .int .i64 a0_3, .int .i64 a0_4, .slice A0_5 l0_5.length c0_5] 26 (0, 0)) (by (with_reducible repeat (first | refine blk_drewN ?_ _ | refine blk_drew ?_ | refine blk_alloc ?_ _)); exact BK349.out) hb); have n2_ := Aside0.mk (blk_below (g := gb350) (o := .cells #[.int .i64 a2_0, .int .i64 a2_1] 23 (0, 0)) (by (with_reducible repeat (first | refine blk_drewN ?_ _ | refine blk_drew ?_ | refine blk_alloc ?_ _)); exact BK350.out) hb); have n3_ := Aside0.mk (blk_below (g := gb353) (o := .cells #[.int .i64 a0_0, .int .i64 a0_1, .int .i64 a0_2, .int .i64 a0_3, .int .i64 a0_4, .slice Ao73 x354005_1.length co73] 26 (0, 0)) (by (with_reducible repeat (first | refine blk_drewN ?_ _ | refine blk_drew ?_ | refine blk_alloc ?_ _)); exact BK353.out) hb); have n4_ := Aside0.mk (blk_below (g := gb364) (o := .cells #[.int .i64 t361, .int .i64 t362] 37 (0, 0)) (by (with_reducible repeat (first | refine blk_drewN ?_ _ | refine blk_drew ?_ | refine blk_alloc ?_ _)); exact BK364.out) hb); have n5_ := Aside0.mk (below_step (by repeat (first | (with_reducible first | exact HB.out | apply below_alloc | apply pw_below_drewN | apply below_drew1 | refine below_set ?_ GE349.out | refine below_set ?_ GE350.out | refine below_set ?_ GE353.out | refine below_set ?_ GE364.out) | exact HB.out)) hb); have n6_ := Aside0.mk (hbox); have n7_ := Aside0.mk ((by rw [hg]; exact (below_size (by repeat (first | (with_reducible first | exact HB.out | apply below_alloc | apply pw_below_drewN | apply below_drew1 | refine below_set ?_ GE349.out | refine below_set ?_ GE350.out | refine below_set ?_ GE353.out | refine below_set ?_ GE364.out) | exact HB.out))) : w.heap.size ≤ gb368)); have n8_ := Aside0.mk ((by rw [hg]; exact (below_size (by repeat (first | (with_reducible first | exact HB.out | apply below_alloc | apply pw_below_drewN | apply below_drew1 | refine below_set ?_ GE349.out | refine below_set ?_ GE350.out | refine below_set ?_ GE353.out | refine below_set ?_ GE364.out) | exact HB.out))) : w.heap.size ≤ gb368)); have n9_ := Aside0.mk ((by rw [hg]; exact Nat.ne_of_lt (blk_lt (g := gb349) (o := .cells #[.int .i64 a0_0, .int .i64 a0_1, .int .i64 a0_2, .int .i64 a0_3, .int .i64 a0_4, .slice A0_5 l0_5.length c0_5] 26 (0, 0)) (by (with_reducible repeat (first | refine blk_drewN ?_ _ | refine blk_drew ?_ | refine blk_alloc ?_ _)); exact BK349.out)) : gb349 ≠ gb368)); have n10_ := Aside0.mk ((by rw [hg]; exact Nat.ne_of_gt (blk_lt (g := gb349) (o := .cells #[.int .i64 a0_0, .int .i64 a0_1, .int .i64 a0_2, .int .i64 a0_3, .int .i64 a0_4, .slice A0_5 l0_5.length c0_5] 26 (0, 0)) (by (with_reducible repeat (first | refine blk_drewN ?_ _ | refine blk_drew ?_ | refine blk_alloc ?_ _)); exact BK349.out)) : gb368 ≠ gb349)); have n11_ := Aside0.mk ((by rw [hg]; exact Nat.ne_of_lt (blk_lt (g := gb350) (o := .cells #[.int .i64 a2_0, .int .i64 a2_1] 23 (0, 0)) (by (with_reducible repeat (first | refine blk_drewN ?_ _ | refine blk_drew ?_ | refine blk_alloc ?_ _)); exact BK350.out)) : gb350 ≠ gb368)); have n12_ := Aside0.mk ((by rw [hg]; exact Nat.ne_of_gt (blk_lt (g := gb350) (o := .cells #[.int .i64 a2_0, .int .i64 a2_1] 23 (0, 0)) (by (with_reducible repeat (first | refine blk_drewN ?_ _ | refine blk_drew ?_ | refine blk_alloc ?_ _)); exact BK350.out)) : gb368 ≠ gb350)); have n13_ := Aside0.mk ((by rw [hg]; exact Nat.ne_of_lt (blk_lt (g := gb353) (o := .cells #[.int .i64 a0_0, .int .i64 a0_1, .int .i64 a0_2, .int .i64 a0_3, .int .i64 a0_4, .slice Ao73 x354005_1.length co73] 26 (0, 0)) (by (with_reducible repeat (first | refine blk_drewN ?_ _ | refine blk_drew ?_ | refine blk_alloc ?_ _)); exact BK353.out)) : gb353 ≠ gb368)); have n14_ := Aside0.mk ((by rw [hg]; exact Nat.ne_of_gt (blk_lt (g := gb353) (o := .cells #[.int .i64 a0_0, .int .i64 a0_1, .int .i64 a0_2, .int .i64 a0_3, .int .i64 a0_4, .slice Ao73 x354005_1.length co73] 26 (0, 0)) (by (with_reducible repeat (first | refine blk_drewN ?_ _ | refine blk_drew ?_ | refine blk_alloc ?_ _)); exact BK353.out)) : gb368 ≠ gb353)); have n15_ := Aside0.mk ((by rw [hg]; exact Nat.ne_of_lt (blk_lt (g := gb364) (o := .cells #[.int .i64 t361, .int .i64 t362] 37 (0, 0)) (by (with_reducible repeat (first | refine blk_drewN ?_ _ | refine blk_drew ?_ | refine blk_alloc ?_ _)); exact BK364.out)) : gb364 ≠ gb368)); have n16_ := Aside0.mk ((by rw [hg]; exact Nat.ne_of_gt (blk_lt (g := gb364) (o := .cells #[.int .i64 t361, .int .i64 t362] 37 (0, 0)) (by (with_reducible repeat (first | refine blk_drewN ?_ _ | refine blk_drew ?_ | refine blk_alloc ?_ _)); exact BK364.out)) : gb368 ≠ gb364)); clear HO_354005; clear BK349; clear BK350; clear BK353; clear BK364; clear HB; have HO_354005 := n0_; have BK349 := n1_; have BK350 := n2_; have BK353 := n3_; have BK364 := n4_; have HB := n5_; have BK368 := n6_; have GW368 := n7_; have GE368 := n8_; have NB349_368 := n9_; have NB368_349 := n10_; have NB350_368 := n11_; have NB368_350 := n12_; have NB353_368 := n13_; have NB368_353 := n14_; have NB364_368 := n15_; have NB368_364 := n16_; clear n0_ n1_ n2_ n3_ n4_ n5_ n6_ n7_ n8_ n9_ n10_ n11_ n12_ n13_ n14_ n15_ n16_; clear hb hbox hg; have hnb76 := NB368_349.out; have hnc76 := NB349_368.out; have hnb77 := NB368_350.out; have hnc77 := NB350_368.out; have hnb78 := NB368_353.out; have hnc78 := NB353_368.out; have hnb79 := NB368_364.out; have hnc79 := NB364_368.out; have hcz80_0 : w75.cell? ⟨gb368, 0, none⟩ = some (.int .i64 0) := (blk_cell BK368.out 0).trans rfl; have hcz80_1 : w75.cell? ⟨gb368, 1, none⟩ = some (.int .i64 0) := (blk_cell BK368.out 1).trans rfl; have hfz80_0 := blk_frozen BK368.out 0; have hfz80_1 := blk_frozen BK368.out 1; have hcz81_0 : w75.cell? ⟨gb349, 0, none⟩ = some (.int .i64 a0_0) := (blk_cell BK349.out 0).trans rfl; have hcz81_1 : w75.cell? ⟨gb349, 1, none⟩ = some (.int .i64 a0_1) := (blk_cell BK349.out 1).trans rfl; have hcz81_2 : w75.cell? ⟨gb349, 2, none⟩ = some (.int .i64 a0_2) := (blk_cell BK349.out 2).trans rfl; have hcz81_3 : w75.cell? ⟨gb349, 3, none⟩ = some (.int .i64 a0_3) := (blk_cell BK349.out 3).trans rfl; have hcz81_4 : w75.cell? ⟨gb349, 4, none⟩ = some (.int .i64 a0_4) := (blk_cell BK349.out 4).trans rfl; have hcz81_5 : w75.cell? ⟨gb349, 5, none⟩ = some (.slice A0_5 l0_5.length c0_5) := (blk_cell BK349.out 5).trans rfl; have hfz81_0 := blk_frozen BK349.out 0; have hfz81_1 := blk_frozen BK349.out 1; have hfz81_2 := blk_frozen BK349.out 2; have hfz81_3 := blk_frozen BK349.out 3; have hfz81_4 := blk_frozen BK349.out 4; have hfz81_5 := blk_frozen BK349.out 5) | ((with_reducible refine gate_callee (f := 19) rfl ?_); refine goesL_ (some 66) rfl rfl Try.func19 (by kernel_rfl) rfl #[.agg #[.int .i64 a0_0, .int .i64 a0_1, .int .i64 a0_2, .int .i64 a0_3, .int .i64 a0_4, .slice A0_5 l0_5.length c0_5]] rfl (by (try simp only [List.map_toArray, List.map_cons, List.map_nil]); first | done | rfl | (simp only [List.length_drop, List.length_take]; rfl)) ?_; (with_reducible refine (terrain_Peaks.calls kj25 a0_0 a0_1 a0_2 a0_3 a0_4 _ _ l0_5 t369 t372 _ ?side1 ?side2 A50.out).mono ?_); (case side1 => exact Kd.C_below HR0_5.out (by repeat (first | (with_reducible first | exact HB.out | apply below_alloc | apply pw_below_drewN | apply below_drew1 | refine below_set ?_ GE349.out | refine below_set ?_ GE350.out | refine below_set ?_ GE353.out | refine below_set ?_ GE364.out | refine below_set ?_ GE368.out) | exact HB.out))); (case side2 => exact HC0_5.out); rintro e w82 ⟨v370, rfl, ho0, hb⟩; refine ⟨_, rfl, ?_⟩; have n0_ := Aside0.mk (Kd.R_below (by (with_reducible repeat (first | apply Kd.R_alloc | apply Kd.R_drewN | apply Kd.R_drew)); exact (Kd.R_mono (Kd.R_far (p := ⟨gb368, 1, none⟩) (Kd.R_far (p := ⟨gb368, 0, none⟩) (Kd.R_types HO_354005.out BK368.out (by decide)) (fun _ hk => hk.2) (.int .i64 t365)) (fun _ hk => hk.2) (.int .i64 t366)) (fun _ h_ => h_.1))) hb); have n1_ := Aside0.mk (Kd.R_lower (Kd.R_newB ho0 (g := gb350) (o := .cells #[.int .i64 a2_0, .int .i64 a2_1] 23 (0, 0)) (by (with_reducible repeat (first | refine blk_drewN ?_ _ | refine blk_drew ?_ | refine blk_alloc ?_ _)); refine blk_far ?_ NB350_368.out _; (with_reducible repeat (first | refine blk_drewN ?_ _ | refine blk_drew ?_ | refine blk_alloc ?_ _)); refine blk_far ?_ NB350_368.out _; (with_reducible repeat (first | refine blk_drewN ?_ _ | refine blk_drew ?_ | refine blk_alloc ?_ _)); exact BK350.out)) (below_size (by repeat (first | (with_reducible first | exact HB.out | apply below_alloc | apply pw_below_drewN | apply below_drew1 | refine below_set ?_ GE349.out | refine below_set ?_ GE350.out | refine below_set ?_ GE353.out | refine below_set ?_ GE364.out | refine below_set ?_ GE368.out) | exact HB.out)))); have n2_ := Aside0.mk (blk_below (g := gb349) (o := .cells #[.int .i64 a0_0, .int .i64 a0_1, .int .i64 a0_2, .int .i64 a0_3, .int .i64 a0_4, .slice A0_5 l0_5.length c0_5] 26 (0, 0)) (by (with_reducible repeat (first | refine blk_drewN ?_ _ | refine blk_drew ?_ | refine blk_alloc ?_ _)); refine blk_far ?_ NB349_368.out _; (with_reducible repeat (first | refine blk_drewN ?_ _ | refine blk_drew ?_ | refine blk_alloc ?_ _)); refine blk_far ?_ NB349_368.out _; (with_reducible repeat (first | refine blk_drewN ?_ _ | refine blk_drew ?_ | refine blk_alloc ?_ _)); exact BK349.out) hb); have n3_ := Aside0.mk (blk_below (g := gb350) (o := .cells #[.int .i64 a2_0, .int .i64 a2_1] 23 (0, 0)) (by (with_reducible repeat (first | refine blk_drewN ?_ _ | refine blk_drew ?_ | refine blk_alloc ?_ _)); refine blk_far ?_ NB350_368.out _; (with_reducible repeat (first | refine blk_drewN ?_ _ | refine blk_drew ?_ | refine blk_alloc ?_ _)); refine blk_far ?_ NB350_368.out _; (with_reducible repeat (first | refine blk_drewN ?_ _ | refine blk_drew ?_ | refine blk_alloc ?_ _)); exact BK350.out) hb); have n4_ := Aside0.mk (blk_below (g := gb353) (o := .cells #[.int .i64 a0_0, .int .i64 a0_1, .int .i64 a0_2, .int .i64 a0_3, .int .i64 a0_4, .slice Ao73 x354005_1.length co73] 26 (0, 0)) (by (with_reducible repeat (first | refine blk_drewN ?_ _ | refine blk_drew ?_ | refine blk_alloc ?_ _)); refine blk_far ?_ NB353_368.out _; (with_reducible repeat (first | refine blk_drewN ?_ _ | refine blk_drew ?_ | refine blk_alloc ?_ _)); refine blk_far ?_ NB353_368.out _; (with_reducible repeat (first | refine blk_drewN ?_ _ | refine blk_drew ?_ | refine blk_alloc ?_ _)); exact BK353.out) hb); have n5_ := Aside0.mk (blk_below (g := gb364) (o := .cells #[.int .i64 t361, .int .i64 t362] 37 (0, 0)) (by (with_reducible repeat (first | refine blk_drewN ?_ _ | refine blk_drew ?_ | refine blk_alloc ?_ _)); refine blk_far ?_ NB364_368.out _; (with_reducible repeat (first | refine blk_drewN ?_ _ | refine blk_drew ?_ | refine blk_alloc ?_ _)); refine blk_far ?_ NB364_368.out _; (with_reducible repeat (first | refine blk_drewN ?_ _ | refine blk_drew ?_ | refine blk_alloc ?_ _)); exact BK364.out) hb); have n6_ := Aside0.mk (blk_below (g := gb368) (o := .cells #[.int .i64 t365, .int .i64 t366] 37 (0, 0)) (by (with_reducible repeat (first | refine blk_drewN ?_ _ | refine blk_drew ?_ | refine blk_alloc ?_ _)); refine blk_put (cs := #[.int .i64 t365, .int .i64 0]) ?_ 1 _ rfl; (with_reducible repeat (first | refine blk_drewN ?_ _ | refine blk_drew ?_ | refine blk_alloc ?_ _)); refine blk_put (cs := #[.int .i64 0, .int .i64 0]) ?_ 0 _ rfl; (with_reducible repeat (first | refine blk_drewN ?_ _ | refine blk_drew ?_ | refine blk_alloc ?_ _)); exact BK368.out) hb); have n7_ := Aside0.mk (below_step (by repeat (first | (with_reducible first | exact HB.out | apply below_alloc | apply pw_below_drewN | apply below_drew1 | refine below_set ?_ GE349.out | refine below_set ?_ GE350.out | refine below_set ?_ GE353.out | refine below_set ?_ GE364.out | refine below_set ?_ GE368.out) | exact HB.out)) hb); clear HO_354005; clear BK349; clear BK350; clear BK353; clear BK364; clear BK368; clear HB; have HO_354005 := n0_; have HO371 := n1_; have BK349 := n2_; have BK350 := n3_; have BK353 := n4_; have BK364 := n5_; have BK368 := n6_; have HB := n7_; clear n0_ n1_ n2_ n3_ n4_ n5_ n6_ n7_; (try clear hb); (try clear hb2); (try clear hk); (try clear hi); (try clear ho0); have hcz83_0 : w82.cell? ⟨gb353, 0, none⟩ = some (.int .i64 a0_0) := (blk_cell BK353.out 0).trans rfl; have hcz83_1 : w82.cell? ⟨gb353, 1, none⟩ = some (.int .i64 a0_1) := (blk_cell BK353.out 1).trans rfl; have hcz83_2 : w82.cell? ⟨gb353, 2, none⟩ = some (.int .i64 a0_2) := (blk_cell BK353.out 2).trans rfl; have hcz83_3 : w82.cell? ⟨gb353, 3, none⟩ = some (.int .i64 a0_3) := (blk_cell BK353.out 3).trans rfl; have hcz83_4 : w82.cell? ⟨gb353, 4, none⟩ = some (.int .i64 a0_4) := (blk_cell BK353.out 4).trans rfl; have hcz83_5 : w82.cell? ⟨gb353, 5, none⟩ = some (.slice Ao73 x354005_1.length co73) := (blk_cell BK353.out 5).trans rfl; have hfz83_0 := blk_frozen BK353.out 0; have hfz83_1 := blk_frozen BK353.out 1; have hfz83_2 := blk_frozen BK353.out 2; have hfz83_3 := blk_frozen BK353.out 3; have hfz83_4 := blk_frozen BK353.out 4; have hfz83_5 := blk_frozen BK353.out 5) | ((with_reducible refine gate_callee (f := 19) rfl ?_); refine goesL_ (some 71) rfl rfl Try.func19 (by kernel_rfl) rfl #[.agg #[.int .i64 a0_0, .int .i64 a0_1, .int .i64 a0_2, .int .i64 a0_3, .int .i64 a0_4, .slice Ao73 x354005_1.length co73]] rfl (by (try simp only [List.map_toArray, List.map_cons, List.map_nil]); first | done | rfl | (simp only [List.length_drop, List.length_take]; rfl)) ?_; (with_reducible refine (terrain_Peaks.calls kj25 a0_0 a0_1 a0_2 a0_3 a0_4 _ _ x354005_1 t373 t376 _ ?side1 ?side2 A51.out).mono ?_); (case side1 => repeat (first | exact (Kd.R_reads' HO_354005.out).2.2 | (with_reducible refine Kd.C_alloc ?_ _) | (with_reducible refine Kd.C_drewN ?_ _) | (with_reducible refine Kd.C_drew ?_))); (case side2 => exact (Kd.R_reads' HO_354005.out).2.1); rintro e w84 ⟨v374, rfl, ho0, hb⟩; refine ⟨_, rfl, ?_⟩; have n0_ := Aside0.mk (Kd.R_below (by (with_reducible repeat (first | apply Kd.R_alloc | apply Kd.R_drewN | apply Kd.R_drew)); exact HO_354005.out) hb); have n1_ := Aside0.mk (Kd.R_elder' (by (with_reducible repeat (first | apply Kd.R_alloc | apply Kd.R_drewN | apply Kd.R_drew)); exact HO371.out) (Kd.R_base ho0) hb); have n2_ := Aside0.mk (Kd.R_lower (Kd.R_newB (Kd.R_new' ho0 (Kd.R_lt (by (with_reducible repeat (first | apply Kd.R_alloc | apply Kd.R_drewN | apply Kd.R_drew)); exact HO371.out))) (g := gb350) (o := .cells #[.int .i64 a2_0, .int .i64 a2_1] 23 (0, 0)) (by (with_reducible repeat (first | refine blk_drewN ?_ _ | refine blk_drew ?_ | refine blk_alloc ?_ _)); exact BK350.out)) (below_size (by repeat (first | (with_reducible first | exact HB.out | apply below_alloc | apply pw_below_drewN | apply below_drew1 | refine below_set ?_ GE349.out | refine below_set ?_ GE350.out | refine below_set ?_ GE353.out | refine below_set ?_ GE364.out | refine below_set ?_ GE368.out) | exact HB.out)))); have n3_ := Aside0.mk (blk_below (g := gb349) (o := .cells #[.int .i64 a0_0, .int .i64 a0_1, .int .i64 a0_2, .int .i64 a0_3, .int .i64 a0_4, .slice A0_5 l0_5.length c0_5] 26 (0, 0)) (by (with_reducible repeat (first | refine blk_drewN ?_ _ | refine blk_drew ?_ | refine blk_alloc ?_ _)); exact BK349.out) hb); have n4_ := Aside0.mk (blk_below (g := gb350) (o := .cells #[.int .i64 a2_0, .int .i64 a2_1] 23 (0, 0)) (by (with_reducible repeat (first | refine blk_drewN ?_ _ | refine blk_drew ?_ | refine blk_alloc ?_ _)); exact BK350.out) hb); have n5_ := Aside0.mk (blk_below (g := gb353) (o := .cells #[.int .i64 a0_0, .int .i64 a0_1, .int .i64 a0_2, .int .i64 a0_3, .int .i64 a0_4, .slice Ao73 x354005_1.length co73] 26 (0, 0)) (by (with_reducible repeat (first | refine blk_drewN ?_ _ | refine blk_drew ?_ | refine blk_alloc ?_ _)); exact BK353.out) hb); have n6_ := Aside0.mk (blk_below (g := gb364) (o := .cells #[.int .i64 t361, .int .i64 t362] 37 (0, 0)) (by (with_reducible repeat (first | refine blk_drewN ?_ _ | refine blk_drew ?_ | refine blk_alloc ?_ _)); exact BK364.out) hb); have n7_ := Aside0.mk (blk_below (g := gb368) (o := .cells #[.int .i64 t365, .int .i64 t366] 37 (0, 0)) (by (with_reducible repeat (first | refine blk_drewN ?_ _ | refine blk_drew ?_ | refine blk_alloc ?_ _)); exact BK368.out) hb); have n8_ := Aside0.mk (below_step (by repeat (first | (with_reducible first | exact HB.out | apply below_alloc | apply pw_below_drewN | apply below_drew1 | refine below_set ?_ GE349.out | refine below_set ?_ GE350.out | refine below_set ?_ GE353.out | refine below_set ?_ GE364.out | refine below_set ?_ GE368.out) | exact HB.out)) hb); clear HO_354005; clear HO371; clear BK349; clear BK350; clear BK353; clear BK364; clear BK368; clear HB; have HO_354005 := n0_; have HO371 := n1_; have HO375 := n2_; have BK349 := n3_; have BK350 := n4_; have BK353 := n5_; have BK364 := n6_; have BK368 := n7_; have HB := n8_; clear n0_ n1_ n2_ n3_ n4_ n5_ n6_ n7_ n8_; (try clear hb); (try clear hb2); (try clear hk); (try clear hi); (try clear ho0)) | ((with_reducible refine gate_callee (f := 10) rfl ?_); refine goesL_ (some 74) rfl rfl Try.func10 (by kernel_rfl) rfl #[] rfl (by (try simp only [List.map_toArray, List.map_cons, List.map_nil]); first | done | rfl | (simp only [List.length_drop, List.length_take]; rfl)) ?_; (with_reducible refine (mapsheetslaw43_awake.calls kj25  true _ A52.out).mono ?_); rintro e w85 ⟨rfl, hb⟩; refine ⟨_, rfl, ?_⟩; have n0_ := Aside0.mk (Kd.R_below (by (with_reducible repeat (first | apply Kd.R_alloc | apply Kd.R_drewN | apply Kd.R_drew)); exact HO_354005.out) hb); have n1_ := Aside0.mk (Kd.R_below (by (with_reducible repeat (first | apply Kd.R_alloc | apply Kd.R_drewN | apply Kd.R_drew)); exact HO371.out) hb); have n2_ := Aside0.mk (Kd.R_below (by (with_reducible repeat (first | apply Kd.R_alloc | apply Kd.R_drewN | apply Kd.R_drew)); exact HO375.out) hb); have n3_ := Aside0.mk (blk_below (g := gb349) (o := .cells #[.int .i64 a0_0, .int .i64 a0_1, .int .i64 a0_2, .int .i64 a0_3, .int .i64 a0_4, .slice A0_5 l0_5.length c0_5] 26 (0, 0)) (by (with_reducible repeat (first | refine blk_drewN ?_ _ | refine blk_drew ?_ | refine blk_alloc ?_ _)); exact BK349.out) hb); have n4_ := Aside0.mk (blk_below (g := gb350) (o := .cells #[.int .i64 a2_0, .int .i64 a2_1] 23 (0, 0)) (by (with_reducible repeat (first | refine blk_drewN ?_ _ | refine blk_drew ?_ | refine blk_alloc ?_ _)); exact BK350.out) hb); have n5_ := Aside0.mk (blk_below (g := gb353) (o := .cells #[.int .i64 a0_0, .int .i64 a0_1, .int .i64 a0_2, .int .i64 a0_3, .int .i64 a0_4, .slice Ao73 x354005_1.length co73] 26 (0, 0)) (by (with_reducible repeat (first | refine blk_drewN ?_ _ | refine blk_drew ?_ | refine blk_alloc ?_ _)); exact BK353.out) hb); have n6_ := Aside0.mk (blk_below (g := gb364) (o := .cells #[.int .i64 t361, .int .i64 t362] 37 (0, 0)) (by (with_reducible repeat (first | refine blk_drewN ?_ _ | refine blk_drew ?_ | refine blk_alloc ?_ _)); exact BK364.out) hb); have n7_ := Aside0.mk (blk_below (g := gb368) (o := .cells #[.int .i64 t365, .int .i64 t366] 37 (0, 0)) (by (with_reducible repeat (first | refine blk_drewN ?_ _ | refine blk_drew ?_ | refine blk_alloc ?_ _)); exact BK368.out) hb); have n8_ := Aside0.mk (below_step (by repeat (first | (with_reducible first | exact HB.out | apply below_alloc | apply pw_below_drewN | apply below_drew1 | refine below_set ?_ GE349.out | refine below_set ?_ GE350.out | refine below_set ?_ GE353.out | refine below_set ?_ GE364.out | refine below_set ?_ GE368.out) | exact HB.out)) hb); clear HO_354005; clear HO371; clear HO375; clear BK349; clear BK350; clear BK353; clear BK364; clear BK368; clear HB; have HO_354005 := n0_; have HO371 := n1_; have HO375 := n2_; have BK349 := n3_; have BK350 := n4_; have BK353 := n5_; have BK364 := n6_; have BK368 := n7_; have HB := n8_; clear n0_ n1_ n2_ n3_ n4_ n5_ n6_ n7_ n8_; (try clear hb); (try clear hb2); (try clear hk); (try clear hi); have hcz86_0 : w85.cell? ⟨gb368, 0, none⟩ = some (.int .i64 t365) := (blk_cell BK368.out 0).trans rfl; have hcz86_1 : w85.cell? ⟨gb368, 1, none⟩ = some (.int .i64 t366) := (blk_cell BK368.out 1).trans rfl; have hfz86_0 := blk_frozen BK368.out 0; have hfz86_1 := blk_frozen BK368.out 1; have hcz87_0 : w85.cell? ⟨gb364, 0, none⟩ = some (.int .i64 t361) := (blk_cell BK364.out 0).trans rfl; have hcz87_1 : w85.cell? ⟨gb364, 1, none⟩ = some (.int .i64 t362) := (blk_cell BK364.out 1).trans rfl; have hfz87_0 := blk_frozen BK364.out 0; have hfz87_1 := blk_frozen BK364.out 1; obtain ⟨Ao88, co88, eo88⟩ := Kd.R_slice HO371.out; subst eo88; obtain ⟨Ao89, co89, eo89⟩ := Kd.R_slice HO375.out; subst eo89) | (go_at_call 21; (with_reducible refine (mapsheetsref43_Same.calls kj25 _ _ t369 _ _ t373 true _ ?side1 ?side2 ?side3 ?side4 A57.out).mono ?_); (case side1 => repeat (first | exact (Kd.R_reads' HO371.out).2.2 | (with_reducible refine Kd.C_alloc ?_ _) | (with_reducible refine Kd.C_drewN ?_ _) | (with_reducible refine Kd.C_drew ?_))); (case side2 => exact (Kd.R_reads' HO371.out).2.1); (case side3 => repeat (first | exact (Kd.R_reads' HO375.out).2.2 | (with_reducible refine Kd.C_alloc ?_ _) | (with_reducible refine Kd.C_drewN ?_ _) | (with_reducible refine Kd.C_drew ?_))); (case side4 => exact (Kd.R_reads' HO375.out).2.1); rintro e w' ⟨rfl, ⟨nd, rfl⟩⟩))
              go_ret
              exact ⟨by first | rfl | (simp [errW_none, errW_some] <;> rfl) | (simp [*, errW_none, errW_some] <;> rfl), by repeat (first | (with_reducible first | exact HB.out | apply below_alloc | apply pw_below_drewN | apply below_drew1 | refine below_set ?_ GE349.out | refine below_set ?_ GE350.out | refine below_set ?_ GE353.out | refine below_set ?_ GE364.out | refine below_set ?_ GE368.out) | exact HB.out)⟩
             ·rw [if_neg c59] at H
              exact absurd H (by simp)
            ·replace c58 := Bool.eq_false_iff.mpr c58
             subst c58
             have H1 : (none) = some r := by rw [if_neg (show ¬ (false = true) by decide)] at H; exact H
             clear H
             have H := H1
             clear H1
             exact absurd H (by simp)
           ·rw [if_neg c56] at H
            exact absurd H (by simp)
          ·rw [if_neg c55] at H
           exact absurd H (by simp)
         ·rw [if_neg c54] at H
          exact absurd H (by simp)
        ·replace c53 := Bool.eq_false_iff.mpr c53
         subst c53
         have H1 : (none) = some r := by rw [if_neg (show ¬ (false = true) by decide)] at H; exact H
         clear H
         have H := H1
         clear H1
         exact absurd H (by simp)
 ·replace c5 := Bool.eq_false_iff.mpr c5
  subst c5
  have H1 : ((mapsheetslaw43_awake.f k).bind fun t352 => (some t352)) = some r := by rw [if_neg (show ¬ (false = true) by decide)] at H; exact H
  clear H
  have H := H1
  clear H1
  replace H := Option.bind_eq_some_iff.mp H
  obtain ⟨t352, A900, H⟩ := H
  replace H : (some t352) = some r := H
  have A90 := Aside0.mk A900
  clear A900
  obtain rfl := Option.some.inj H
  go_enter Try.func6, Try.ntmps6
  go_wp2_with (first | ((with_reducible refine gate_dst (N := 3) rfl ?_); refine box_event ?hg (N := 3) ?hd (cs := #[.int .i64 a0_0, .int .i64 a0_1, .int .i64 a0_2, .int .i64 a0_3, .int .i64 a0_4, .slice A0_5 l0_5.length c0_5]) (t := 26) ?hr ?_; (case hd => rfl); (case hg => rfl); (case hr => first | (go_simp; done) | (go_simp; rfl)); intro gb349 hg w91 hbox hb; have n0_ := Aside0.mk (below_step (by repeat (first | (with_reducible first | exact HB.out | apply below_alloc | apply pw_below_drewN | apply below_drew1) | exact HB.out)) hb); have n1_ := Aside0.mk (hbox); have n2_ := Aside0.mk ((by rw [hg]; exact (below_size (by repeat (first | (with_reducible first | exact HB.out | apply below_alloc | apply pw_below_drewN | apply below_drew1) | exact HB.out))) : w.heap.size ≤ gb349)); have n3_ := Aside0.mk ((by rw [hg]; exact (below_size (by repeat (first | (with_reducible first | exact HB.out | apply below_alloc | apply pw_below_drewN | apply below_drew1) | exact HB.out))) : w.heap.size ≤ gb349)); clear HB; have HB := n0_; have BK349 := n1_; have GW349 := n2_; have GE349 := n3_; clear n0_ n1_ n2_ n3_; clear hb hbox hg) | ((with_reducible refine gate_dst (N := 5) rfl ?_); refine box_event ?hg (N := 5) ?hd (cs := #[.int .i64 a2_0, .int .i64 a2_1]) (t := 23) ?hr ?_; (case hd => rfl); (case hg => rfl); (case hr => first | (go_simp; done) | (go_simp; rfl)); intro gb350 hg w92 hbox hb; have n0_ := Aside0.mk (blk_below (g := gb349) (o := .cells #[.int .i64 a0_0, .int .i64 a0_1, .int .i64 a0_2, .int .i64 a0_3, .int .i64 a0_4, .slice A0_5 l0_5.length c0_5] 26 (0, 0)) (by (with_reducible repeat (first | refine blk_drewN ?_ _ | refine blk_drew ?_ | refine blk_alloc ?_ _)); exact BK349.out) hb); have n1_ := Aside0.mk (below_step (by repeat (first | (with_reducible first | exact HB.out | apply below_alloc | apply pw_below_drewN | apply below_drew1 | refine below_set ?_ GE349.out) | exact HB.out)) hb); have n2_ := Aside0.mk (hbox); have n3_ := Aside0.mk ((by rw [hg]; exact (below_size (by repeat (first | (with_reducible first | exact HB.out | apply below_alloc | apply pw_below_drewN | apply below_drew1 | refine below_set ?_ GE349.out) | exact HB.out))) : w.heap.size ≤ gb350)); have n4_ := Aside0.mk ((by rw [hg]; exact (below_size (by repeat (first | (with_reducible first | exact HB.out | apply below_alloc | apply pw_below_drewN | apply below_drew1 | refine below_set ?_ GE349.out) | exact HB.out))) : w.heap.size ≤ gb350)); have n5_ := Aside0.mk ((by rw [hg]; exact Nat.ne_of_lt (blk_lt (g := gb349) (o := .cells #[.int .i64 a0_0, .int .i64 a0_1, .int .i64 a0_2, .int .i64 a0_3, .int .i64 a0_4, .slice A0_5 l0_5.length c0_5] 26 (0, 0)) (by (with_reducible repeat (first | refine blk_drewN ?_ _ | refine blk_drew ?_ | refine blk_alloc ?_ _)); exact BK349.out)) : gb349 ≠ gb350)); have n6_ := Aside0.mk ((by rw [hg]; exact Nat.ne_of_gt (blk_lt (g := gb349) (o := .cells #[.int .i64 a0_0, .int .i64 a0_1, .int .i64 a0_2, .int .i64 a0_3, .int .i64 a0_4, .slice A0_5 l0_5.length c0_5] 26 (0, 0)) (by (with_reducible repeat (first | refine blk_drewN ?_ _ | refine blk_drew ?_ | refine blk_alloc ?_ _)); exact BK349.out)) : gb350 ≠ gb349)); clear BK349; clear HB; have BK349 := n0_; have HB := n1_; have BK350 := n2_; have GW350 := n3_; have GE350 := n4_; have NB349_350 := n5_; have NB350_349 := n6_; clear n0_ n1_ n2_ n3_ n4_ n5_ n6_; clear hb hbox hg; have hnb93 := NB349_350.out; have hnc93 := NB350_349.out; have hcz94_0 : w92.cell? ⟨gb349, 0, none⟩ = some (.int .i64 a0_0) := (blk_cell BK349.out 0).trans rfl; have hcz94_1 : w92.cell? ⟨gb349, 1, none⟩ = some (.int .i64 a0_1) := (blk_cell BK349.out 1).trans rfl; have hcz94_2 : w92.cell? ⟨gb349, 2, none⟩ = some (.int .i64 a0_2) := (blk_cell BK349.out 2).trans rfl; have hcz94_3 : w92.cell? ⟨gb349, 3, none⟩ = some (.int .i64 a0_3) := (blk_cell BK349.out 3).trans rfl; have hcz94_4 : w92.cell? ⟨gb349, 4, none⟩ = some (.int .i64 a0_4) := (blk_cell BK349.out 4).trans rfl; have hcz94_5 : w92.cell? ⟨gb349, 5, none⟩ = some (.slice A0_5 l0_5.length c0_5) := (blk_cell BK349.out 5).trans rfl; have hfz94_0 := blk_frozen BK349.out 0; have hfz94_1 := blk_frozen BK349.out 1; have hfz94_2 := blk_frozen BK349.out 2; have hfz94_3 := blk_frozen BK349.out 3; have hfz94_4 := blk_frozen BK349.out 4; have hfz94_5 := blk_frozen BK349.out 5) | ((with_reducible refine gate_callee (f := 9) rfl ?_); refine goesL_ (some 18) rfl rfl Try.func9 (by kernel_rfl) rfl #[.agg #[.int .i64 a0_0, .int .i64 a0_1, .int .i64 a0_2, .int .i64 a0_3, .int .i64 a0_4, .slice A0_5 l0_5.length c0_5]] rfl (by (try simp only [List.map_toArray, List.map_cons, List.map_nil]); first | done | rfl | (simp only [List.length_drop, List.length_take]; rfl)) ?_; (with_reducible refine (mapsheetslaw43_light.calls a0_0 a0_1 a0_2 a0_3 a0_4 _ _ l0_5 false _ ?side1 ?side2 A4.out).mono ?_); (case side1 => repeat (first | exact (Kd.C_below HR0_5.out HB.out) | (with_reducible refine Kd.C_alloc ?_ _) | (with_reducible refine Kd.C_drewN ?_ _) | (with_reducible refine Kd.C_drew ?_))); (case side2 => exact HC0_5.out); rintro e w95 ⟨rfl, hb⟩; refine ⟨_, rfl, ?_⟩; have n0_ := Aside0.mk (blk_below (g := gb349) (o := .cells #[.int .i64 a0_0, .int .i64 a0_1, .int .i64 a0_2, .int .i64 a0_3, .int .i64 a0_4, .slice A0_5 l0_5.length c0_5] 26 (0, 0)) (by (with_reducible repeat (first | refine blk_drewN ?_ _ | refine blk_drew ?_ | refine blk_alloc ?_ _)); exact BK349.out) hb); have n1_ := Aside0.mk (blk_below (g := gb350) (o := .cells #[.int .i64 a2_0, .int .i64 a2_1] 23 (0, 0)) (by (with_reducible repeat (first | refine blk_drewN ?_ _ | refine blk_drew ?_ | refine blk_alloc ?_ _)); exact BK350.out) hb); have n2_ := Aside0.mk (below_step (by repeat (first | (with_reducible first | exact HB.out | apply below_alloc | apply pw_below_drewN | apply below_drew1 | refine below_set ?_ GE349.out | refine below_set ?_ GE350.out) | exact HB.out)) hb); clear BK349; clear BK350; clear HB; have BK349 := n0_; have BK350 := n1_; have HB := n2_; clear n0_ n1_ n2_; (try clear hb); (try clear hb2); (try clear hk); (try clear hi)) | ((with_reducible refine gate_callee (f := 10) rfl ?_); refine goesL_ (some 20) rfl rfl Try.func10 (by kernel_rfl) rfl #[] rfl (by (try simp only [List.map_toArray, List.map_cons, List.map_nil]); first | done | rfl | (simp only [List.length_drop, List.length_take]; rfl)) ?_; (with_reducible refine (mapsheetslaw43_awake.calls k  t352 _ A90.out).mono ?_); rintro e w96 ⟨rfl, hb⟩; refine ⟨_, rfl, ?_⟩; have n0_ := Aside0.mk (blk_below (g := gb349) (o := .cells #[.int .i64 a0_0, .int .i64 a0_1, .int .i64 a0_2, .int .i64 a0_3, .int .i64 a0_4, .slice A0_5 l0_5.length c0_5] 26 (0, 0)) (by (with_reducible repeat (first | refine blk_drewN ?_ _ | refine blk_drew ?_ | refine blk_alloc ?_ _)); exact BK349.out) hb); have n1_ := Aside0.mk (blk_below (g := gb350) (o := .cells #[.int .i64 a2_0, .int .i64 a2_1] 23 (0, 0)) (by (with_reducible repeat (first | refine blk_drewN ?_ _ | refine blk_drew ?_ | refine blk_alloc ?_ _)); exact BK350.out) hb); have n2_ := Aside0.mk (below_step (by repeat (first | (with_reducible first | exact HB.out | apply below_alloc | apply pw_below_drewN | apply below_drew1 | refine below_set ?_ GE349.out | refine below_set ?_ GE350.out) | exact HB.out)) hb); clear BK349; clear BK350; clear HB; have BK349 := n0_; have BK350 := n1_; have HB := n2_; clear n0_ n1_ n2_; (try clear hb); (try clear hb2); (try clear hk); (try clear hi)))
  go_ret
  exact ⟨by first | rfl | (simp [errW_none, errW_some] <;> rfl) | (simp [*, errW_none, errW_some] <;> rfl), by repeat (first | (with_reducible first | exact HB.out | apply below_alloc | apply pw_below_drewN | apply below_drew1 | refine below_set ?_ GE349.out | refine below_set ?_ GE350.out) | exact HB.out)⟩
def mapsheetslaw43_TerrainRises.Pure : Prop := ∀ (a0_0 : Int) (a0_1 : Int) (a0_2 : Int) (a0_3 : Int) (a0_4 : Int) (l0_5 : List Int) (a1 : Int) (a2_0 : Int) (a2_1 : Int), (Lit.int .i64 a0_0).wf = true → (Lit.int .i64 a0_1).wf = true → (Lit.int .i64 a0_2).wf = true → (Lit.int .i64 a0_3).wf = true → (Lit.int .i64 a0_4).wf = true → l0_5.length * 8 ≤ 140737488351232 → (∀ x_ ∈ l0_5, (Lit.int .i64 x_).wf = true) → (Lit.int .i16 a1).wf = true → (Lit.int .i64 a2_0).wf = true → (Lit.int .i64 a2_1).wf = true → ∃ k, mapsheetslaw43_TerrainRises.f k a0_0 a0_1 a0_2 a0_3 a0_4 l0_5 a1 a2_0 a2_1 = some true
end Go.Proofs.Ytachglfhgcdobaa.PAll
end
section
namespace Go.Proofs.Ytachglfhgcdobaa.PAll
open Go.RowKit Go.Proofs.YtachglfhgcdobaaW.PrintWords Go.Proofs.YtachglfhgcdobaaW.PrintLast
set_option linter.unusedVariables false
theorem awake_eq (k : Nat) (hk : 100 ≤ k) : mapsheetslaw43_awake.f k = some true := by
  have h : mapsheetslaw43_awake.f 100 = some true := by kernel_rfl
  exact at_rounds (g := fun k => mapsheetslaw43_awake.f k) (fun k => mapsheetslaw43_awake.mono k) hk h
theorem light_eq (x y c r s : Int) (l : List Int) : mapsheetslaw43_light.f x y c r s l = some (decide ((l.length : Int) ≤ 4200)) := rfl
end Go.Proofs.Ytachglfhgcdobaa.PAll
end
section
namespace Go.Proofs.Ytachglfhgcdobaa.PAll
open Go.RowKit Go.Proofs.YtachglfhgcdobaaW.PrintWords Go.Proofs.YtachglfhgcdobaaW.PrintLast
set_option linter.unusedVariables false
theorem u64w (x : Int) : IntKind.u64.wrap x = x % 18446744073709551616 := by simp [IntKind.wrap, IntKind.bits, IntKind.signed]
theorem i64wf {a : Int} (h : (Lit.int .i64 a).wf = true) : -9223372036854775808 ≤ a ∧ a ≤ 9223372036854775807 := by
  simp only [Lit.wf, IntKind.min, IntKind.max, IntKind.signed, IntKind.bits, Bool.and_eq_true, decide_eq_true_eq, if_true] at h
  exact ⟨by have := h.1; omega, by have := h.2; omega⟩
end Go.Proofs.Ytachglfhgcdobaa.PAll
end
section
namespace Go.Proofs.Ytachglfhgcdobaa.PAll
open Go.RowKit Go.Proofs.YtachglfhgcdobaaW.PrintWords Go.Proofs.YtachglfhgcdobaaW.PrintLast
set_option linter.unusedVariables false
theorem w64 {x : Int} (h : -9223372036854775808 ≤ x ∧ x ≤ 9223372036854775807) : wrap64 x = x := by unfold wrap64; omega
theorem num_abs_eq {a : Int} (h : -9223372036854775808 ≤ a ∧ a ≤ 9223372036854775807) : num_abs.f a = some (a.natAbs : Int) := by
  unfold num_abs.f
  split
  · refine congrArg some ?_; simp only [u64w]; omega
  · refine congrArg some ?_; simp only [u64w]; omega
theorem num_gcd_eq : ∀ (k a b : Nat), b < k → num_gcd.f k a b = some (Nat.gcd a b : Int)
  | 0, a, b, h => absurd h (Nat.not_lt_zero _)
  | k + 1, a, b, h => by
    unfold num_gcd.f
    simp only [num_gcd.l0]
    by_cases hb : b = 0
    · subst hb; rw [if_pos (by simp)]; simp
    · rw [if_neg (by omega), ← Int.ofNat_tmod]
      have hlt : a % b < b := Nat.mod_lt a (by omega)
      have ih := num_gcd_eq k b (a % b) (by omega)
      unfold num_gcd.f at ih
      rw [ih]
      congr 2
      rw [Nat.gcd_comm, ← Nat.gcd_rec]
      exact Nat.gcd_comm b a
def rst (a b : Int) : Int := if 0 < b then a % b else -((-a) % (-b))
def up (a b : Int) : Prop := rst a b ≠ 0 ∧ (b.natAbs : Int) ≤ 2 * (rst a b).natAbs
instance (a b : Int) : Decidable (up a b) := inferInstanceAs (Decidable (_ ∧ _))
section
variable {a b : Int} (ha : -9223372036854775808 ≤ a ∧ a ≤ 9223372036854775807) (hb : -9223372036854775808 ≤ b ∧ b ≤ 9223372036854775807)
include ha hb
end
end Go.Proofs.Ytachglfhgcdobaa.PAll
end
section
namespace Go.Proofs.Ytachglfhgcdobaa.PAll
open Go.RowKit Go.Proofs.YtachglfhgcdobaaW.PrintWords Go.Proofs.YtachglfhgcdobaaW.PrintLast
set_option linter.unusedVariables false
theorem num_signed_true {n : Int} (h : 0 ≤ n) (h1 : n < 18446744073709551616) : num_signed.f true n = some (if n ≤ 9223372036854775808 then (-n, true) else (wrap64 (-(wrap64 n)), false)) := by
  unfold num_signed.f
  rw [if_pos rfl]
  by_cases hn : n ≤ 9223372036854775808
  · rw [if_pos hn, decide_eq_true hn]
    refine congrArg some (Prod.ext ?_ rfl)
    show wrap64 (-(wrap64 n)) = -n
    unfold wrap64; omega
  · rw [if_neg hn, decide_eq_false hn]
theorem num_signed_false {n : Int} (h : 0 ≤ n) : num_signed.f false n = some (if n ≤ 9223372036854775807 then (n, true) else (wrap64 n, false)) := by
  unfold num_signed.f
  rw [if_neg (by decide)]
  by_cases hn : n ≤ 9223372036854775807
  · rw [if_pos hn, decide_eq_true hn, w64 (by omega)]
  · rw [if_neg hn, decide_eq_false hn]
end Go.Proofs.Ytachglfhgcdobaa.PAll
end
section
namespace Go.Proofs.Ytachglfhgcdobaa.PAll
open Go.RowKit Go.Proofs.YtachglfhgcdobaaW.PrintWords Go.Proofs.YtachglfhgcdobaaW.PrintLast
set_option linter.unusedVariables false
theorem num_abs_nat {a : Int} (h : -9223372036854775808 ≤ a ∧ a ≤ 9223372036854775807) : a.natAbs ≤ 9223372036854775808 := by omega
end Go.Proofs.Ytachglfhgcdobaa.PAll
end
section
namespace Go.Proofs.Ytachglfhgcdobaa.PAll
open Go.RowKit Go.Proofs.YtachglfhgcdobaaW.PrintWords Go.Proofs.YtachglfhgcdobaaW.PrintLast
set_option linter.unusedVariables false
def fitN (s : Bool) (n : Nat) : Prop := if s = true then n ≤ 9223372036854775808 else n ≤ 9223372036854775807
instance (s : Bool) (n : Nat) : Decidable (fitN s n) := by unfold fitN; infer_instance
def sgnN (s : Bool) (n : Nat) : Int := if s = true then -(n : Int) else (n : Int)
def makeS (a b : Int) : Int × Int × Int :=
  if b = 0 then (0, 0, 21)
  else if fitN ((decide (a < 0)) != (decide (b < 0))) (a.natAbs / Nat.gcd a.natAbs b.natAbs) ∧ b.natAbs / Nat.gcd a.natAbs b.natAbs ≤ 9223372036854775807 then
    (sgnN ((decide (a < 0)) != (decide (b < 0))) (a.natAbs / Nat.gcd a.natAbs b.natAbs), ((b.natAbs / Nat.gcd a.natAbs b.natAbs : Nat) : Int), 0)
  else (0, 0, 15)
theorem fitN_true {n : Nat} : fitN true n ↔ n ≤ 9223372036854775808 := by unfold fitN; rw [if_pos rfl]
theorem fitN_false {n : Nat} : fitN false n ↔ n ≤ 9223372036854775807 := by unfold fitN; rw [if_neg (by decide)]
theorem sgnN_true {n : Nat} : sgnN true n = -(n : Int) := by unfold sgnN; rw [if_pos rfl]
theorem sgnN_false {n : Nat} : sgnN false n = (n : Int) := by unfold sgnN; rw [if_neg (by decide)]
theorem num_signed_fit (s : Bool) (n : Nat) (h : n ≤ 9223372036854775808) : ∃ v, num_signed.f s (n : Int) = some (v, decide (fitN s n)) ∧ (fitN s n → v = sgnN s n) := by
  cases s with
  | true =>
    rw [num_signed_true (by omega) (by omega), if_pos (by omega), decide_eq_true (fitN_true.2 h)]
    exact ⟨_, rfl, fun _ => sgnN_true.symm⟩
  | false =>
    rw [num_signed_false (by omega)]
    by_cases hn : n ≤ 9223372036854775807
    · rw [if_pos (by omega), decide_eq_true (fitN_false.2 hn)]
      exact ⟨_, rfl, fun _ => sgnN_false.symm⟩
    · rw [if_neg (by omega), decide_eq_false (fun h => hn (fitN_false.1 h))]
      exact ⟨_, rfl, fun h => absurd (fitN_false.1 h) hn⟩
theorem gcd_pos_of {a b : Int} (hb : b ≠ 0) : 0 < Nat.gcd a.natAbs b.natAbs := Nat.gcd_pos_of_pos_right _ (by omega)
theorem udiv {x g : Nat} (hx : x ≤ 9223372036854775808) : IntKind.u64.wrap (Int.tdiv (x : Int) (g : Int)) = ((x / g : Nat) : Int) := by
  have := Nat.div_le_self x g
  rw [← Int.ofNat_tdiv, u64w]; generalize x / g = D at *; omega
section
variable {a b : Int} (ha : -9223372036854775808 ≤ a ∧ a ≤ 9223372036854775807) (hb : -9223372036854775808 ≤ b ∧ b ≤ 9223372036854775807)
include ha hb
theorem num_Make_eq (k : Nat) (hk : 9223372036854775809 ≤ k) : num_Make.f k a b = some (makeS a b) := by
  unfold num_Make.f makeS
  by_cases h0 : b = 0
  · rw [if_pos h0, if_pos h0]
  · have hA := num_abs_nat ha
    have hB := num_abs_nat hb
    have hg := gcd_pos_of (a := a) h0
    rw [if_neg h0, if_neg h0, num_abs_eq ha, Option.bind_some, num_abs_eq hb, Option.bind_some, num_gcd_eq k _ _ (by omega), Option.bind_some, Option.bind_some, if_neg (by omega), udiv hA, udiv hB]
    have d1 := Nat.div_le_self a.natAbs (Nat.gcd a.natAbs b.natAbs)
    have d2 := Nat.div_le_self b.natAbs (Nat.gcd a.natAbs b.natAbs)
    generalize a.natAbs / Nat.gcd a.natAbs b.natAbs = x at *
    generalize b.natAbs / Nat.gcd a.natAbs b.natAbs = y at *
    generalize ((decide (a < 0)) != (decide (b < 0))) = s at *
    obtain ⟨v, e1, v1⟩ := num_signed_fit s x (by omega)
    obtain ⟨u, e2, u1⟩ := num_signed_fit false y (by omega)
    rw [e1, Option.bind_some, Option.bind_some, e2, Option.bind_some]
    have hy : fitN false y ↔ y ≤ 9223372036854775807 := fitN_false
    show (if decide (fitN s x) = true then (if decide (fitN false y) = true then some (v, u, (0 : Int)) else some (0, 0, 15)) else some (0, 0, 15)) = _
    by_cases f1 : fitN s x
    · by_cases f2 : y ≤ 9223372036854775807
      · rw [if_pos (decide_eq_true f1), if_pos (decide_eq_true (hy.2 f2)), if_pos (show fitN s x ∧ y ≤ 9223372036854775807 from ⟨f1, f2⟩), v1 f1, u1 (hy.2 f2), sgnN_false]
      · rw [if_pos (decide_eq_true f1), if_neg (show ¬ decide (fitN false y) = true by rw [decide_eq_true_eq]; exact fun h => f2 (hy.1 h)), if_neg (show ¬ (fitN s x ∧ y ≤ 9223372036854775807) from fun h => f2 h.2)]
    · rw [if_neg (show ¬ decide (fitN s x) = true by rw [decide_eq_true_eq]; exact f1), if_neg (show ¬ (fitN s x ∧ y ≤ 9223372036854775807) from fun h => f1 h.1)]
end
end Go.Proofs.Ytachglfhgcdobaa.PAll
end
section
namespace Go.Proofs.Ytachglfhgcdobaa.PAll
open Go.RowKit Go.Proofs.YtachglfhgcdobaaW.PrintWords Go.Proofs.YtachglfhgcdobaaW.PrintLast
set_option linter.unusedVariables false
theorem rd_get (l : List Int) (i : Nat) (h : i < l.length) : rd l (i : Int) = l[i] := by
  unfold rd; rw [show ((i : Int)).toNat = i from rfl, List.getD_eq_getElem?_getD, List.getElem?_eq_getElem h, Option.getD_some]
def badV (v : Int) : Bool := decide (v < -10000 ∨ 10000 < v)
def hasBad (l : List Int) : Bool := l.any badV
theorem hasBad_drop {l : List Int} {i : Nat} (hi : i < l.length) : hasBad (l.drop i) = (badV l[i] || hasBad (l.drop (i + 1))) := by
  rw [List.drop_eq_getElem_cons hi]; rfl
theorem hasBad_rd {l : List Int} (h : hasBad l = false) {i : Int} (h0 : 0 ≤ i) (h1 : i < l.length) : -10000 ≤ rd l i ∧ rd l i ≤ 10000 := by
  obtain ⟨n, rfl⟩ : ∃ n : Nat, i = n := ⟨i.toNat, by omega⟩
  have hn : n < l.length := by omega
  rw [rd_get l n hn]
  have := List.any_eq_false.1 h l[n] (List.getElem_mem hn)
  unfold badV at this
  simp only [decide_eq_true_eq] at this
  omega
def fits (x y c r s : Int) : Prop := (-1048576 ≤ x ∧ x ≤ 1048576) ∧ (-1048576 ≤ y ∧ y ≤ 1048576) ∧ (2 ≤ c ∧ c ≤ 64) ∧ (2 ≤ r ∧ r ≤ 64) ∧ (1 ≤ s ∧ s ≤ 1048576) ∧ x + (c - 1) * s ≤ 1048576 ∧ y + (r - 1) * s ≤ 1048576
instance (x y c r s : Int) : Decidable (fits x y c r s) := by unfold fits; infer_instance
def chkS (x y c r s : Int) (l : List Int) : Int := if fits x y c r s then (if (l.length : Int) = c * r then (if hasBad l then 2 else 0) else 1) else 2
theorem chkS_zero {x y c r s : Int} {l : List Int} (h : chkS x y c r s l = 0) : fits x y c r s ∧ (l.length : Int) = c * r ∧ hasBad l = false := by
  unfold chkS at h
  by_cases h1 : fits x y c r s
  · rw [if_pos h1] at h
    by_cases h2 : (l.length : Int) = c * r
    · rw [if_pos h2] at h
      cases h3 : hasBad l with
      | true => rw [h3, if_pos rfl] at h; exact absurd h (by decide)
      | false => exact ⟨h1, h2, rfl⟩
    · rw [if_neg h2] at h; exact absurd h (by decide)
  · rw [if_neg h1] at h; exact absurd h (by decide)
theorem steps_le {n s : Int} (hn : 2 ≤ n ∧ n ≤ 64) (hs : 1 ≤ s ∧ s ≤ 1048576) : 0 ≤ (n - 1) * s ∧ (n - 1) * s ≤ 66060288 := by
  have h1 : 0 ≤ (n - 1) * s := Int.mul_nonneg (by omega) (by omega)
  have h2 : (n - 1) * s ≤ 63 * 1048576 := Int.mul_le_mul (by omega) hs.2 (by omega) (by omega)
  omega
theorem area_le {c r : Int} (hc : 2 ≤ c ∧ c ≤ 64) (hr : 2 ≤ r ∧ r ≤ 64) : 0 ≤ c * r ∧ c * r ≤ 4096 := by
  have h1 : 0 ≤ c * r := Int.mul_nonneg (by omega) (by omega)
  have h2 : c * r ≤ 64 * 64 := Int.mul_le_mul hc.2 hr.2 (by omega) (by omega)
  omega
theorem within_eq (a b c : Int) : terrain_within.f a b c = some (decide (b ≤ a ∧ a ≤ c)) := by
  unfold terrain_within.f
  by_cases h : a ≥ b
  · rw [if_pos h]; congr 1; rw [decide_eq_decide]; omega
  · rw [if_neg h, decide_eq_false (by omega)]
theorem idx_loop (l : List Int) (hl : l.length ≤ 4200) : ∀ (m i k : Nat), i + m = l.length → m + 1 ≤ k → ∃ r, slices_IndexFunc_int_int_at30.l0 k l (l.length : Int) (i : Int) = some r ∧ (r ≥ 0 ↔ hasBad (l.drop i) = true)
  | 0, i, k, h, hk => by
    obtain ⟨k, rfl⟩ : ∃ j, k = j + 1 := ⟨k - 1, by omega⟩
    refine ⟨-1, ?_, ?_⟩
    · simp only [slices_IndexFunc_int_int_at30.l0]; rw [if_neg (by omega)]
    · rw [List.drop_eq_nil_of_le (by omega)]; simp [hasBad]
  | m + 1, i, k, h, hk => by
    obtain ⟨k, rfl⟩ : ∃ j, k = j + 1 := ⟨k - 1, by omega⟩
    have hi : i < l.length := by omega
    have e : l.drop i = l[i] :: l.drop (i + 1) := List.drop_eq_getElem_cons hi
    have hc : terrain_Check_1.f (rd l (i : Int)) = some (badV l[i]) := by
      rw [rd_get l i hi]; unfold terrain_Check_1.f badV
      rw [within_eq, Option.bind_some]; congr 1
      rw [← decide_not, decide_eq_decide]; omega
    simp only [slices_IndexFunc_int_int_at30.l0]
    rw [if_pos (by omega), if_pos (by omega), if_pos (by omega), hc, Option.bind_some]
    cases hb : badV l[i] with
    | true => rw [if_pos rfl]; exact ⟨_, rfl, by rw [hasBad_drop hi, hb]; simp⟩
    | false =>
      rw [if_neg (by decide)]
      obtain ⟨r, h1, h2⟩ := idx_loop l hl m (i + 1) k (by omega) (by omega)
      refine ⟨r, ?_, ?_⟩
      · rw [show wrap64 ((i : Int) + 1) = ((i + 1 : Nat) : Int) by unfold wrap64; omega]; exact h1
      · rw [h2, hasBad_drop hi, hb, Bool.false_or]
theorem contains_eq (l : List Int) (hl : l.length ≤ 4200) (k : Nat) (hk : 4201 ≤ k) : slices_ContainsFunc_int_int_at30.f k l = some (hasBad l) := by
  obtain ⟨r, h1, h2⟩ := idx_loop l hl l.length 0 k (by omega) (by omega)
  unfold slices_ContainsFunc_int_int_at30.f slices_IndexFunc_int_int_at30.f
  have h1' : slices_IndexFunc_int_int_at30.l0 k l (l.length : Int) 0 = some r := h1
  rw [h1', Option.bind_some]; congr 1
  rw [List.drop_zero] at h2
  cases hb : hasBad l with
  | true => rw [hb] at h2; exact decide_eq_true (h2.2 rfl)
  | false => rw [hb] at h2; exact decide_eq_false (fun h => by have := h2.1 h; cases this)
theorem terrain_Check_eq (x y c r s : Int) (l : List Int) (hl : l.length ≤ 4200) (k : Nat) (hk : 4210 ≤ k) : terrain_Check.f k x y c r s l = some (chkS x y c r s l) := by
  obtain ⟨k, rfl⟩ : ∃ j, k = j + 2 := ⟨k - 2, by omega⟩
  have j0t : ∀ x y c r s l, terrain_Check.j0 (k + 2) true x y c r s l = some 2 := fun _ _ _ _ _ _ => by simp only [terrain_Check.j0]; rfl
  have j1t : ∀ x y c r s l, terrain_Check.j1 (k + 1) true x y c r s l = some 2 := fun _ _ _ _ _ _ => by simp only [terrain_Check.j1]; rfl
  have bad : ¬ fits x y c r s → chkS x y c r s l = 2 := fun h => by unfold chkS; rw [if_neg h]
  unfold terrain_Check.f
  simp only [within_eq, Option.bind_some, decide_eq_true_eq]
  by_cases h1 : -1048576 ≤ x ∧ x ≤ 1048576
  case neg => rw [if_neg h1, j0t, bad (fun h => h1 h.1)]
  rw [if_pos h1]
  by_cases h2 : -1048576 ≤ y ∧ y ≤ 1048576
  case neg => rw [if_neg h2, j0t, bad (fun h => h2 h.2.1)]
  rw [if_pos h2]
  by_cases h3 : 2 ≤ c ∧ c ≤ 64
  case neg => rw [if_neg h3, j0t, bad (fun h => h3 h.2.2.1)]
  rw [if_pos h3]
  by_cases h4 : 2 ≤ r ∧ r ≤ 64
  case neg => rw [if_neg h4, j0t, bad (fun h => h4 h.2.2.2.1)]
  rw [if_pos h4]
  by_cases h5 : 1 ≤ s ∧ s ≤ 1048576
  case neg => rw [decide_eq_false h5, Bool.not_false, j0t, bad (fun h => h5 h.2.2.2.2.1)]
  rw [decide_eq_true h5, Bool.not_true]
  have p1 := steps_le h3 h5
  have p2 := steps_le h4 h5
  have p3 := area_le h3 h4
  have w1 : wrap64 (x + wrap64 (wrap64 (c - 1) * s)) = x + (c - 1) * s := by
    rw [show wrap64 (c - 1) = c - 1 from w64 (by omega), show wrap64 ((c - 1) * s) = (c - 1) * s from w64 (by omega)]; exact w64 (by omega)
  have w2 : wrap64 (y + wrap64 (wrap64 (r - 1) * s)) = y + (r - 1) * s := by
    rw [show wrap64 (r - 1) = r - 1 from w64 (by omega), show wrap64 ((r - 1) * s) = (r - 1) * s from w64 (by omega)]; exact w64 (by omega)
  have w3 : wrap64 (c * r) = c * r := w64 (by omega)
  simp only [terrain_Check.j0]
  rw [if_neg (by decide), w1, w2]
  by_cases h6 : x + (c - 1) * s > 1048576
  · rw [if_pos h6, j1t, bad (fun h => by have := h.2.2.2.2.2.1; omega)]
  rw [if_neg h6]
  by_cases h7 : y + (r - 1) * s > 1048576
  · rw [decide_eq_true h7, j1t, bad (fun h => by have := h.2.2.2.2.2.2; omega)]
  rw [decide_eq_false h7]
  have hf : fits x y c r s := ⟨h1, h2, h3, h4, h5, by omega, by omega⟩
  simp only [terrain_Check.j1]
  rw [if_neg (by decide), w3]
  unfold chkS
  rw [if_pos hf]
  by_cases h8 : (l.length : Int) = c * r
  · rw [if_pos h8, if_pos h8, contains_eq l hl k (by omega), Option.bind_some]
    cases hasBad l <;> rfl
  · rw [if_neg h8, if_neg h8]
theorem cell_lt {c r a b : Int} (ha : 0 ≤ a ∧ a < c) (hb : 0 ≤ b ∧ b < r) : 0 ≤ b * c + a ∧ b * c + a < c * r ∧ 0 ≤ b * c := by
  have h1 : 0 ≤ b * c := Int.mul_nonneg hb.1 (by omega)
  have h2 : b * c ≤ (r - 1) * c := Int.mul_le_mul_of_nonneg_right (by omega) (by omega)
  rw [Int.sub_mul, Int.mul_comm r c] at h2
  omega
end Go.Proofs.Ytachglfhgcdobaa.PAll
end
section
namespace Go.Proofs.Ytachglfhgcdobaa.PAll
open Go.RowKit Go.Proofs.YtachglfhgcdobaaW.PrintWords Go.Proofs.YtachglfhgcdobaaW.PrintLast
set_option linter.unusedVariables false
def hgt (l : List Int) (c x y : Int) : Int := rd l (y * c + x)
def rowS (l : List Int) (c q : Int) : List Int := (l.take ((q + 1) * c).toNat).drop (q * c).toNat
theorem rd_part (l : List Int) (A B i : Nat) (h : A + i < B) (hB : B ≤ l.length) : rd ((l.take B).drop A) (i : Int) = rd l ((A + i : Nat) : Int) := by
  rw [rd_get _ i (by rw [List.length_drop, List.length_take]; omega), rd_get l (A + i) (by omega), List.getElem_drop, List.getElem_take]
section
set_option linter.unusedSectionVars false
variable {x y c r s : Int} {l : List Int} (hf : fits x y c r s) (hn : (l.length : Int) = c * r)
include hf hn
theorem hgt_range (hb : hasBad l = false) {a b : Int} (ha : 0 ≤ a ∧ a < c) (hb' : 0 ≤ b ∧ b < r) : -10000 ≤ hgt l c a b ∧ hgt l c a b ≤ 10000 := by
  have := cell_lt ha hb'
  exact hasBad_rd hb this.1 (by omega)
theorem row_ends {q : Int} (hq : 0 ≤ q ∧ q < r) : 0 ≤ q * c ∧ (q + 1) * c = q * c + c ∧ (q + 1) * c ≤ l.length ∧ (l.length : Int) ≤ 4096 := by
  have h := cell_lt (c := c) (r := r) (a := c - 1) (b := q) (by have := hf.2.2.1; omega) hq
  have e : (q + 1) * c = q * c + c := by rw [Int.add_mul, Int.one_mul]
  have p3 := area_le hf.2.2.1 hf.2.2.2.1
  omega
theorem row_eq {q : Int} (hq : 0 ≤ q ∧ q < r) : terrain_row.f x y c r s l q = some (rowS l c q) := by
  obtain ⟨h1, h2, h3, h4⟩ := row_ends hf hn hq
  have hc := hf.2.2.1
  have hr := hf.2.2.2.1
  unfold terrain_row.f rowS
  rw [w64 (x := q + 1) (by omega), w64 (x := q * c) (by omega), w64 (x := (q + 1) * c) (by omega), if_pos (by omega), if_pos (by omega), if_pos (by omega)]
theorem rowS_len {q : Int} (hq : 0 ≤ q ∧ q < r) : ((rowS l c q).length : Int) = c := by
  obtain ⟨h1, h2, h3, h4⟩ := row_ends hf hn hq
  have hc := hf.2.2.1
  unfold rowS
  rw [List.length_drop, List.length_take]; omega
theorem rowS_rd {q p : Int} (hq : 0 ≤ q ∧ q < r) (hp : 0 ≤ p ∧ p < c) : rd (rowS l c q) p = hgt l c p q := by
  obtain ⟨h1, h2, h3, h4⟩ := row_ends hf hn hq
  obtain ⟨n, rfl⟩ : ∃ n : Nat, p = n := ⟨p.toNat, by omega⟩
  unfold rowS hgt
  rw [rd_part l _ _ n (by omega) (by omega)]
  congr 1; omega
end
end Go.Proofs.Ytachglfhgcdobaa.PAll
end
section
namespace Go.Proofs.Ytachglfhgcdobaa.PAll
open Go.RowKit Go.Proofs.YtachglfhgcdobaaW.PrintWords Go.Proofs.YtachglfhgcdobaaW.PrintLast
set_option linter.unusedVariables false
def cellI (x s c X : Int) : Int := mn ((X - x) / s) (c - 2)
def reach (x y c r s X Y : Int) : Prop := (x ≤ X ∧ X ≤ x + (c - 1) * s) ∧ (y ≤ Y ∧ Y ≤ y + (r - 1) * s)
instance (x y c r s X Y : Int) : Decidable (reach x y c r s X Y) := by unfold reach; infer_instance
def interp (s a b c d u v : Int) : Int := if u ≥ v then a * s + ((b - a) * u + (d - b) * v) else a * s + ((c - a) * v + (d - c) * u)
def numS (x y c r s : Int) (l : List Int) (X Y : Int) : Int :=
  interp s (hgt l c (cellI x s c X) (cellI y s r Y)) (hgt l c (cellI x s c X + 1) (cellI y s r Y)) (hgt l c (cellI x s c X) (cellI y s r Y + 1)) (hgt l c (cellI x s c X + 1) (cellI y s r Y + 1)) (X - x - cellI x s c X * s) (Y - y - cellI y s r Y * s)
def heightS (x y c r s : Int) (l : List Int) (X Y : Int) : Int × Int × Int :=
  if chkS x y c r s l = 0 then (if reach x y c r s X Y then makeS (numS x y c r s l X Y) s else (0, 0, 7)) else (0, 0, chkS x y c r s l)
theorem cell_ok {x s c X : Int} (hx : -1048576 ≤ x ∧ x ≤ 1048576) (hc : 2 ≤ c ∧ c ≤ 64) (hs : 1 ≤ s ∧ s ≤ 1048576) (hX : x ≤ X ∧ X ≤ x + (c - 1) * s) (he : x + (c - 1) * s ≤ 1048576) :
    mn (wrap64 (Int.tdiv (wrap64 (X - x)) s)) (wrap64 (c - 2)) = cellI x s c X ∧ 0 ≤ cellI x s c X ∧ cellI x s c X ≤ c - 2 ∧ 0 ≤ X - x - cellI x s c X * s ∧ X - x - cellI x s c X * s ≤ s ∧ 0 ≤ cellI x s c X * s ∧ cellI x s c X * s ≤ 2097152 := by
  have st := steps_le hc hs
  have hd : 0 ≤ X - x := by omega
  have q0 : 0 ≤ (X - x) / s := Int.ediv_nonneg hd (by omega)
  have q1 : (X - x) / s ≤ X - x := Int.ediv_le_self _ hd
  have em := Int.emod_add_mul_ediv (X - x) s
  have e1 := Int.emod_nonneg (X - x) (show s ≠ 0 by omega)
  have e2 := Int.emod_lt_of_pos (X - x) (show 0 < s by omega)
  rw [w64 (x := X - x) (by omega), Int.tdiv_eq_ediv_of_nonneg hd, w64 (x := (X - x) / s) (by omega), w64 (x := c - 2) (by omega)]
  unfold cellI
  generalize (X - x) / s = q at *
  generalize (X - x) % s = m at *
  have hcs : (c - 1) * s = (c - 2) * s + s := by rw [show c - 1 = (c - 2) + 1 by omega, Int.add_mul, Int.one_mul]
  have hsq : s * q = q * s := Int.mul_comm _ _
  unfold mn
  refine ⟨rfl, ?_⟩
  by_cases hq : c - 2 < q
  case neg =>
    rw [if_neg hq]
    have : 0 ≤ q * s := Int.mul_nonneg q0 (by omega)
    by_cases he2 : q = c - 2
    · subst he2; omega
    · have h3 : (q + 1) * s ≤ (c - 1) * s := Int.mul_le_mul_of_nonneg_right (by omega) (by omega)
      rw [Int.add_mul, Int.one_mul] at h3
      omega
  case pos =>
    rw [if_pos hq]
    have h1 : (c - 2) * s ≤ q * s := Int.mul_le_mul_of_nonneg_right (by omega) (by omega)
    have h2 : 0 ≤ (c - 2) * s := Int.mul_nonneg (by omega) (by omega)
    omega
theorem part_le {A B s : Int} (hA : -20000 ≤ A ∧ A ≤ 20000) (hB : 0 ≤ B ∧ B ≤ s) (hs : s ≤ 1048576) : -20971520000 ≤ A * B ∧ A * B ≤ 20971520000 := by
  have h1 : A * B ≤ 20000 * B := Int.mul_le_mul_of_nonneg_right hA.2 hB.1
  have h2 : -20000 * B ≤ A * B := Int.mul_le_mul_of_nonneg_right hA.1 hB.1
  omega
theorem interp_range {s a b c d u v : Int} (ha : -10000 ≤ a ∧ a ≤ 10000) (hb : -10000 ≤ b ∧ b ≤ 10000) (hc : -10000 ≤ c ∧ c ≤ 10000) (hd : -10000 ≤ d ∧ d ≤ 10000) (hu : 0 ≤ u ∧ u ≤ s) (hv : 0 ≤ v ∧ v ≤ s) (hs : 1 ≤ s ∧ s ≤ 1048576) :
    (-62914560000 ≤ interp s a b c d u v ∧ interp s a b c d u v ≤ 62914560000) ∧
    (u ≥ v → wrap64 (wrap64 (a * s) + wrap64 (wrap64 (wrap64 (b - a) * u) + wrap64 (wrap64 (d - b) * v))) = interp s a b c d u v) ∧
    (¬ u ≥ v → wrap64 (wrap64 (a * s) + wrap64 (wrap64 (wrap64 (c - a) * v) + wrap64 (wrap64 (d - c) * u))) = interp s a b c d u v) ∧
    (u ≥ v → wrap64 (wrap64 (wrap64 (a * s) + wrap64 (wrap64 (b - a) * u)) + wrap64 (wrap64 (d - b) * v)) = interp s a b c d u v) ∧
    (¬ u ≥ v → wrap64 (wrap64 (wrap64 (a * s) + wrap64 (wrap64 (c - a) * v)) + wrap64 (wrap64 (d - c) * u)) = interp s a b c d u v) := by
  have p0 := part_le (A := a) (B := s) (by omega) (s := s) (by omega) hs.2
  have p1 := part_le (A := b - a) (B := u) (by omega) hu hs.2
  have p2 := part_le (A := d - b) (B := v) (by omega) hv hs.2
  have p3 := part_le (A := c - a) (B := v) (by omega) hv hs.2
  have p4 := part_le (A := d - c) (B := u) (by omega) hu hs.2
  unfold interp
  refine ⟨?_, ?_, ?_, ?_, ?_⟩
  · split <;> omega
  · intro h
    rw [if_pos h, w64 (x := b - a) (by omega), w64 (x := d - b) (by omega), w64 (x := a * s) (by omega), w64 (x := (b - a) * u) (by omega), w64 (x := (d - b) * v) (by omega), w64 (x := (b - a) * u + (d - b) * v) (by omega), w64 (by omega)]
  · intro h
    rw [if_neg h, w64 (x := c - a) (by omega), w64 (x := d - c) (by omega), w64 (x := a * s) (by omega), w64 (x := (c - a) * v) (by omega), w64 (x := (d - c) * u) (by omega), w64 (x := (c - a) * v + (d - c) * u) (by omega), w64 (by omega)]
  · intro h
    rw [if_pos h, w64 (x := b - a) (by omega), w64 (x := d - b) (by omega), w64 (x := a * s) (by omega), w64 (x := (b - a) * u) (by omega), w64 (x := (d - b) * v) (by omega), w64 (x := a * s + (b - a) * u) (by omega), w64 (by omega)]; omega
  · intro h
    rw [if_neg h, w64 (x := c - a) (by omega), w64 (x := d - c) (by omega), w64 (x := a * s) (by omega), w64 (x := (c - a) * v) (by omega), w64 (x := (d - c) * u) (by omega), w64 (x := a * s + (c - a) * v) (by omega), w64 (by omega)]; omega
theorem pair_eq {t : List Int} {p : Int} (h0 : 0 ≤ p) (h1 : p + 2 ≤ t.length) : (((t.take (p + 2).toNat).drop p.toNat).length : Int) = 2 ∧ rd ((t.take (p + 2).toNat).drop p.toNat) 0 = rd t p ∧ rd ((t.take (p + 2).toNat).drop p.toNat) 1 = rd t (p + 1) := by
  refine ⟨?_, ?_, ?_⟩
  · rw [List.length_drop, List.length_take]; omega
  · have := rd_part t p.toNat (p + 2).toNat 0 (by omega) (by omega)
    rw [show ((0 : Nat) : Int) = 0 from rfl] at this
    rw [this]; congr 1; omega
  · have := rd_part t p.toNat (p + 2).toNat 1 (by omega) (by omega)
    rw [show ((1 : Nat) : Int) = 1 from rfl] at this
    rw [this]; congr 1; omega
theorem terrain_Height_eq (x y c r s : Int) (l : List Int) (hl : l.length ≤ 4200) {X Y : Int} (hX : -9223372036854775808 ≤ X ∧ X ≤ 9223372036854775807) (hY : -9223372036854775808 ≤ Y ∧ Y ≤ 9223372036854775807) (k : Nat) (hk : 9223372036854775810 ≤ k) :
    terrain_Height.f k x y c r s l X Y = some (heightS x y c r s l X Y) := by
  obtain ⟨k, rfl⟩ : ∃ j, k = j + 1 := ⟨k - 1, by omega⟩
  have j0t : terrain_Height.j0 (k + 1) true x y c r s l X Y = some (0, 0, 7) := by rw [terrain_Height.j0, if_pos rfl]
  unfold terrain_Height.f heightS
  rw [terrain_Check_eq x y c r s l hl _ (by omega), Option.bind_some]
  by_cases h : chkS x y c r s l = 0
  case neg => rw [if_neg h, if_neg h]
  rw [if_pos h, if_pos h]
  obtain ⟨hf, hn, hb⟩ := chkS_zero h
  obtain ⟨fx, fy, fc, fr, fs, fX, fY⟩ := hf
  have hf : fits x y c r s := ⟨fx, fy, fc, fr, fs, fX, fY⟩
  have stx := steps_le fc fs
  have sty := steps_le fr fs
  have ex : wrap64 (x + wrap64 (wrap64 (c - 1) * s)) = x + (c - 1) * s := by
    rw [w64 (x := c - 1) (by omega), w64 (x := (c - 1) * s) (by omega)]; exact w64 (by omega)
  have ey : wrap64 (y + wrap64 (wrap64 (r - 1) * s)) = y + (r - 1) * s := by
    rw [w64 (x := r - 1) (by omega), w64 (x := (r - 1) * s) (by omega)]; exact w64 (by omega)
  rw [ex, ey]
  by_cases c1 : X < x
  · rw [if_pos c1, j0t, if_neg (show ¬ reach x y c r s X Y by unfold reach; omega)]
  rw [if_neg c1]
  by_cases c2 : Y < y
  · rw [if_pos c2, j0t, if_neg (show ¬ reach x y c r s X Y by unfold reach; omega)]
  rw [if_neg c2]
  by_cases c3 : X > x + (c - 1) * s
  · rw [if_pos c3, j0t, if_neg (show ¬ reach x y c r s X Y by unfold reach; omega)]
  rw [if_neg c3]
  by_cases c4 : Y > y + (r - 1) * s
  · rw [decide_eq_true c4, j0t, if_neg (show ¬ reach x y c r s X Y by unfold reach; omega)]
  have hr : reach x y c r s X Y := by unfold reach; omega
  rw [decide_eq_false c4, if_pos hr, terrain_Height.j0, if_neg (by decide), if_neg (by omega)]
  obtain ⟨eC, C0, C1, u0, u1, CS0, CS1⟩ := cell_ok (X := X) fx fc fs (by omega) fX
  obtain ⟨eR, R0, R1, v0, v1, RS0, RS1⟩ := cell_ok (X := Y) fy fr fs (by omega) fY
  rw [eC, eR]
  unfold numS
  obtain ⟨col, hcol⟩ : ∃ z, z = cellI x s c X := ⟨_, rfl⟩
  obtain ⟨row, hrow⟩ : ∃ z, z = cellI y s r Y := ⟨_, rfl⟩
  rw [← hcol] at C0 C1 u0 u1 CS0 CS1 ⊢
  rw [← hrow] at R0 R1 v0 v1 RS0 RS1 ⊢
  have len1 := rowS_len hf hn (q := row) (by omega)
  have len2 := rowS_len hf hn (q := row + 1) (by omega)
  obtain ⟨pl1, pa, pb⟩ := pair_eq (t := rowS l c row) (p := col) C0 (by omega)
  obtain ⟨pl2, pc, pd⟩ := pair_eq (t := rowS l c (row + 1)) (p := col) C0 (by omega)
  rw [rowS_rd hf hn (by omega) (by omega)] at pa pb pc pd
  rw [w64 (x := col + 2) (by omega), w64 (x := row + 1) (by omega), w64 (x := X - x) (by omega), w64 (x := Y - y) (by omega), w64 (x := col * s) (by omega), w64 (x := row * s) (by omega), w64 (x := X - x - col * s) (by omega), w64 (x := Y - y - row * s) (by omega)]
  rw [row_eq hf hn (by omega), Option.bind_some, if_pos C0, if_pos (by omega), if_pos (by omega), Option.bind_some, row_eq hf hn (by omega), Option.bind_some, if_pos (by omega), Option.bind_some, pl1, pl2, pa, pb, pc, pd, if_pos (by omega)]
  have ha := hgt_range hf hn hb (a := col) (b := row) (by omega) (by omega)
  have hb1 := hgt_range hf hn hb (a := col + 1) (b := row) (by omega) (by omega)
  have hc1 := hgt_range hf hn hb (a := col) (b := row + 1) (by omega) (by omega)
  have hd1 := hgt_range hf hn hb (a := col + 1) (b := row + 1) (by omega) (by omega)
  obtain ⟨rg, i1, i2, _, _⟩ := interp_range ha hb1 hc1 hd1 ⟨u0, u1⟩ ⟨v0, v1⟩ fs
  by_cases hu : X - x - col * s ≥ Y - y - row * s
  · rw [if_pos hu, if_pos (by omega), if_pos (by omega), i1 hu, num_Make_eq (by omega) (by omega) k (by omega), Option.bind_some]
  · rw [if_neg hu, if_pos (by omega), if_pos (by omega), i2 hu, num_Make_eq (by omega) (by omega) k (by omega), Option.bind_some]
end Go.Proofs.Ytachglfhgcdobaa.PAll
end
section
namespace Go.Proofs.Ytachglfhgcdobaa.PAll
open Go.RowKit Go.Proofs.YtachglfhgcdobaaW.PrintWords Go.Proofs.YtachglfhgcdobaaW.PrintLast
set_option linter.unusedVariables false
def peakP (l : List Int) (c r p q : Int) : Prop := ∀ p' q' : Int, (0 ≤ p' ∧ p' < c) → (0 ≤ q' ∧ q' < r) → (p - 1 ≤ p' ∧ p' ≤ p + 1) → (q - 1 ≤ q' ∧ q' ≤ q + 1) → ¬ (p' = p ∧ q' = q) → hgt l c p' q' < hgt l c p q
open Classical in
noncomputable def peakB (l : List Int) (c r p q : Int) : Bool := decide (peakP l c r p q)
open Classical in
theorem peakB_pos {l : List Int} {c r p q : Int} (h : peakP l c r p q) : peakB l c r p q = true := decide_eq_true h
open Classical in
theorem peakB_neg {l : List Int} {c r p q : Int} (h : ¬ peakP l c r p q) : peakB l c r p q = false := decide_eq_false h
theorem tpeak_in (p q top x8 x y c r s : Int) (l ys : List Int) (hy : ys.length ≤ 64) : ∀ (m j k : Nat), j + m = ys.length →
    ((∀ i : Nat, j ≤ i → i < ys.length → rd ys (i : Int) ≥ top → x8 = q ∧ wrap64 (mx (wrap64 (p - 1)) 0 + (i : Int)) = p) → terrain_peak.l1 (k + m + 1) p q top x8 ys (ys.length : Int) (j : Int) x y c r s l = terrain_peak.l0 k p q top (wrap64 (x8 + 1)) x y c r s l) ∧
    ((∃ i : Nat, j ≤ i ∧ i < ys.length ∧ rd ys (i : Int) ≥ top ∧ ¬ (x8 = q ∧ wrap64 (mx (wrap64 (p - 1)) 0 + (i : Int)) = p)) → terrain_peak.l1 (k + m + 1) p q top x8 ys (ys.length : Int) (j : Int) x y c r s l = some false)
  | 0, j, k, hj => by
    refine ⟨fun _ => ?_, fun ⟨i, h1, h2, _⟩ => by omega⟩
    rw [Nat.add_zero, terrain_peak.l1, if_neg (by omega)]
  | m + 1, j, k, hj => by
    have hw : wrap64 ((j : Int) + 1) = ((j + 1 : Nat) : Int) := by rw [w64 (by omega)]; omega
    obtain ⟨ih1, ih2⟩ := tpeak_in p q top x8 x y c r s l ys hy m (j + 1) k (by omega)
    rw [show k + (m + 1) + 1 = (k + m + 1) + 1 by omega, terrain_peak.l1, if_pos (by omega), if_pos (by omega), if_pos (by omega), hw]
    by_cases ht : rd ys (j : Int) ≥ top
    · rw [if_pos ht]
      by_cases h1 : x8 = q
      · rw [if_pos h1]
        by_cases h2 : wrap64 (mx (wrap64 (p - 1)) 0 + (j : Int)) = p
        · rw [if_pos h2]
          refine ⟨fun h => ih1 (fun i a b => h i (by omega) b), fun ⟨i, a, b, g⟩ => ih2 ⟨i, ?_, b, g⟩⟩
          rcases Nat.eq_or_lt_of_le a with e | e
          · subst e; exact absurd ⟨h1, h2⟩ g.2
          · exact e
        · rw [if_neg h2]
          exact ⟨fun h => absurd (h j (Nat.le_refl _) (by omega) ht).2 h2, fun _ => rfl⟩
      · rw [if_neg h1]
        exact ⟨fun h => absurd (h j (Nat.le_refl _) (by omega) ht).1 h1, fun _ => rfl⟩
    · rw [if_neg ht]
      refine ⟨fun h => ih1 (fun i a b => h i (by omega) b), fun ⟨i, a, b, g⟩ => ih2 ⟨i, ?_, b, g⟩⟩
      rcases Nat.eq_or_lt_of_le a with e | e
      · subst e; exact absurd g.1 ht
      · exact e
section
set_option linter.unusedSectionVars false
variable {x y c r s : Int} {l : List Int} (hf : fits x y c r s) (hn : (l.length : Int) = c * r) {p q : Int} (hp : 0 ≤ p ∧ p < c) (hq : 0 ≤ q ∧ q < r)
include hf hn hp hq
def badRow (l : List Int) (c p q top q' : Int) : Prop := ∃ p' : Int, (0 ≤ p' ∧ p' < c) ∧ (p - 1 ≤ p' ∧ p' ≤ p + 1) ∧ hgt l c p' q' ≥ top ∧ ¬ (p' = p ∧ q' = q)
theorem tpeak_rows (top : Int) : ∀ (n : Nat) (x8 : Int) (k : Nat), 0 ≤ x8 → x8 + n = mn (q + 1) (r - 1) + 1 → n * 67 + 1 ≤ k →
    ((∀ q', x8 ≤ q' → q' ≤ q + 1 → q' < r → ¬ badRow l c p q top q') → terrain_peak.l0 k p q top x8 x y c r s l = some true) ∧
    ((∃ q', x8 ≤ q' ∧ q' ≤ q + 1 ∧ q' < r ∧ badRow l c p q top q') → terrain_peak.l0 k p q top x8 x y c r s l = some false)
  | 0, x8, k, h0, hx, hk => by
    have hc := hf.2.2.1
    have hr := hf.2.2.2.1
    have hm : mn (q + 1) (r - 1) = if r - 1 < q + 1 then r - 1 else q + 1 := rfl
    obtain ⟨k, rfl⟩ : ∃ j, k = j + 1 := ⟨k - 1, by omega⟩
    rw [terrain_peak.l0, w64 (x := q + 1) (by omega), w64 (x := r - 1) (by omega), if_neg (by omega)]
    exact ⟨fun _ => rfl, fun ⟨q', a, b, d, _⟩ => by split at hm <;> omega⟩
  | n + 1, x8, k, h0, hx, hk => by
    have hc := hf.2.2.1
    have hr := hf.2.2.2.1
    have hm : mn (q + 1) (r - 1) = if r - 1 < q + 1 then r - 1 else q + 1 := rfl
    have hx8 : x8 ≤ q + 1 ∧ x8 < r := by split at hm <;> omega
    obtain ⟨k, rfl⟩ : ∃ j, k = j + 1 := ⟨k - 1, by omega⟩
    obtain ⟨lo, hlo⟩ : ∃ z, z = mx (p - 1) 0 := ⟨_, rfl⟩
    obtain ⟨hi, hhi⟩ : ∃ z, z = mn (p + 2) c := ⟨_, rfl⟩
    have hlo' : lo = if p - 1 < 0 then 0 else p - 1 := hlo
    have hhi' : hi = if c < p + 2 then c else p + 2 := hhi
    have hl1 : 0 ≤ lo ∧ p - 1 ≤ lo ∧ lo ≤ p ∧ (lo = 0 ∨ lo = p - 1) := by split at hlo' <;> omega
    have hh1 : p < hi ∧ hi ≤ c ∧ hi ≤ p + 2 ∧ (hi = c ∨ hi = p + 2) := by split at hhi' <;> omega
    have hlen := rowS_len hf hn (q := x8) (by omega)
    rw [terrain_peak.l0, w64 (x := q + 1) (by omega), w64 (x := r - 1) (by omega), if_pos (by omega), row_eq hf hn (by omega), Option.bind_some, w64 (x := p - 1) (by omega), w64 (x := p + 2) (by omega), ← hlo, ← hhi, if_pos (by omega), if_pos (by omega), if_pos (by omega), Option.bind_some]
    obtain ⟨ys, hys⟩ : ∃ ys, ys = ((rowS l c x8).take hi.toNat).drop lo.toNat := ⟨_, rfl⟩
    rw [← hys]
    have hyl : ys.length = hi.toNat - lo.toNat := by rw [hys, List.length_drop, List.length_take]; omega
    have hrd : ∀ i : Nat, i < ys.length → rd ys (i : Int) = hgt l c (lo + i) x8 := by
      intro i hi'
      rw [hys, rd_part _ _ _ i (by omega) (by omega), rowS_rd hf hn (by omega) (by omega)]
      congr 1; omega
    obtain ⟨i1, i2⟩ := tpeak_in p q top x8 x y c r s l ys (by omega) ys.length 0 (k - ys.length - 1) (by omega)
    rw [show k - ys.length - 1 + ys.length + 1 = k by omega, show ((0 : Nat) : Int) = 0 from rfl, w64 (x := p - 1) (by omega), ← hlo] at i1 i2
    rw [w64 (x := x8 + 1) (by omega)] at i1
    obtain ⟨r1, r2⟩ := tpeak_rows top n (x8 + 1) (k - ys.length - 1) (by omega) (by omega) (by omega)
    have hbad : badRow l c p q top x8 ↔ ∃ i : Nat, 0 ≤ i ∧ i < ys.length ∧ rd ys (i : Int) ≥ top ∧ ¬ (x8 = q ∧ wrap64 (lo + (i : Int)) = p) := by
      constructor
      · rintro ⟨p', a, b, d, e⟩
        refine ⟨(p' - lo).toNat, Nat.zero_le _, by omega, ?_, ?_⟩
        · rw [hrd _ (by omega), show lo + (((p' - lo).toNat : Nat) : Int) = p' by omega]; exact d
        · rw [w64 (by omega)]; intro h; exact e ⟨by omega, h.1⟩
      · rintro ⟨i, _, b, d, e⟩
        rw [hrd i b] at d
        exact ⟨lo + i, by omega, by omega, d, fun h => e ⟨h.2, by rw [w64 (by omega)]; exact h.1⟩⟩
    by_cases hb : badRow l c p q top x8
    · refine ⟨fun h => absurd hb (h x8 (Int.le_refl _) hx8.1 hx8.2), fun _ => i2 (hbad.1 hb)⟩
    · have hnb : ∀ i : Nat, 0 ≤ i → i < ys.length → rd ys (i : Int) ≥ top → x8 = q ∧ wrap64 (lo + (i : Int)) = p := by
        intro i a b d
        by_cases hc' : x8 = q ∧ wrap64 (lo + (i : Int)) = p
        · exact hc'
        · exact absurd (hbad.2 ⟨i, a, b, d, hc'⟩) hb
      rw [i1 hnb]
      refine ⟨fun h => r1 (fun q' a b d => h q' (by omega) b d), fun ⟨q', a, b, d, e⟩ => r2 ⟨q', ?_, b, d, e⟩⟩
      by_cases he : q' = x8
      · subst he; exact absurd e hb
      · omega
theorem terrain_peak_eq (k : Nat) (hk : 300 ≤ k) : terrain_peak.f k x y c r s l p q = some (peakB l c r p q) := by
  have hc := hf.2.2.1
  have hr := hf.2.2.2.1
  unfold terrain_peak.f
  rw [row_eq hf hn hq, Option.bind_some, rowS_len hf hn hq, if_pos (by omega), if_pos (by omega), rowS_rd hf hn hq hp, w64 (x := q - 1) (by omega)]
  obtain ⟨lo, hlo⟩ : ∃ z, z = mx (q - 1) 0 := ⟨_, rfl⟩
  have hlo' : lo = if q - 1 < 0 then 0 else q - 1 := hlo
  have hm : mn (q + 1) (r - 1) = if r - 1 < q + 1 then r - 1 else q + 1 := rfl
  have hl1 : 0 ≤ lo ∧ q - 1 ≤ lo ∧ lo ≤ q ∧ (lo = 0 ∨ lo = q - 1) := by split at hlo' <;> omega
  have hm1 : q ≤ mn (q + 1) (r - 1) ∧ mn (q + 1) (r - 1) ≤ q + 1 := by split at hm <;> omega
  obtain ⟨r1, r2⟩ := tpeak_rows hf hn hp hq (hgt l c p q) (mn (q + 1) (r - 1) + 1 - lo).toNat lo k (by omega) (by omega) (by omega)
  rw [← hlo]
  by_cases h : peakP l c r p q
  · rw [peakB_pos h]
    exact r1 (fun q' a b d ⟨p', e1, e2, e3, e4⟩ => by have := h p' q' e1 (by omega) e2 (by omega) e4; omega)
  · rw [peakB_neg h]
    refine r2 (Classical.byContradiction fun hc' => h ?_)
    intro p' q' a1 a2 a3 a4 a5
    refine Int.not_le.1 fun hle => hc' ⟨q', by omega, a4.2, a2.2, p', a1, a3, hle, a5⟩
end
end Go.Proofs.Ytachglfhgcdobaa.PAll
end
section
namespace Go.Proofs.Ytachglfhgcdobaa.PAll
open Go.RowKit Go.Proofs.YtachglfhgcdobaaW.PrintWords Go.Proofs.YtachglfhgcdobaaW.PrintLast
set_option linter.unusedVariables false
noncomputable def pkRow (l : List Int) (c r x y s : Int) (q : Nat) : Nat → Nat → List S23
  | _, 0 => []
  | p, n + 1 => (if peakB l c r (p : Int) (q : Int) = true then [(⟨x + p * s, y + q * s⟩ : S23)] else []) ++ pkRow l c r x y s q (p + 1) n
noncomputable def pkAll (l : List Int) (c r x y s : Int) (C : Nat) : Nat → Nat → List S23
  | _, 0 => []
  | q, n + 1 => pkRow l c r x y s q 0 C ++ pkAll l c r x y s C (q + 1) n
theorem pkRow_len (l : List Int) (c r x y s : Int) (q : Nat) : ∀ n p, (pkRow l c r x y s q p n).length ≤ n
  | 0, p => Nat.le_refl _
  | n + 1, p => by
    have := pkRow_len l c r x y s q n (p + 1)
    rw [pkRow, List.length_append]
    split
    · rw [List.length_singleton]; omega
    · rw [List.length_nil]; omega
theorem pkAll_len (l : List Int) (c r x y s : Int) (C : Nat) : ∀ n q, (pkAll l c r x y s C q n).length ≤ n * C
  | 0, q => by rw [pkAll]; simp
  | n + 1, q => by
    have h1 := pkAll_len l c r x y s C n (q + 1)
    have h2 := pkRow_len l c r x y s q C 0
    rw [pkAll, List.length_append, Nat.add_mul, Nat.one_mul]; omega
noncomputable def peaksS (x y c r s : Int) (l : List Int) : List S23 × Int := if chkS x y c r s l = 0 then (pkAll l c r x y s c.toNat 0 r.toNat, 0) else ([], chkS x y c r s l)
theorem at_le {x s c p : Int} (hx : -1048576 ≤ x ∧ x ≤ 1048576) (hc : 2 ≤ c ∧ c ≤ 64) (hs : 1 ≤ s ∧ s ≤ 1048576) (hp : 0 ≤ p ∧ p < c) : wrap64 (x + wrap64 (p * s)) = x + p * s ∧ 0 ≤ p * s ∧ p * s ≤ (c - 1) * s := by
  have st := steps_le hc hs
  have h0 : 0 ≤ p * s := Int.mul_nonneg hp.1 (by omega)
  have h1 : p * s ≤ (c - 1) * s := Int.mul_le_mul_of_nonneg_right (by omega) (by omega)
  refine ⟨?_, h0, h1⟩
  rw [w64 (x := p * s) (by omega), w64 (by omega)]
section
set_option linter.unusedSectionVars false
variable {x y c r s : Int} {l : List Int} (h0 : chkS x y c r s l = 0) (C R : Nat) (hC : (C : Int) = c) (hR : (R : Int) = r)
include h0 hC hR
theorem tp_row (q : Nat) (hq : q < R) : ∀ (n p : Nat) (acc : List S23) (k : Nat), p + n = C → acc.length + n ≤ 100000 → 300 ≤ k →
    terrain_Peaks.l1 (k + n + 1) acc (q : Int) r (q : Int) c (p : Int) x y c r s l = terrain_Peaks.l0 k (acc ++ pkRow l c r x y s q p n) r ((q + 1 : Nat) : Int) x y c r s l
  | 0, p, acc, k, hp, ha, hk => by
    have hr := (chkS_zero h0).1.2.2.2.1
    rw [Nat.add_zero, terrain_Peaks.l1, if_neg (by omega), pkRow, List.append_nil, show wrap64 ((q : Int) + 1) = ((q + 1 : Nat) : Int) by rw [w64 (by omega)]; omega]
  | n + 1, p, acc, k, hp, ha, hk => by
    obtain ⟨hf, hn, hb⟩ := chkS_zero h0
    have hc := hf.2.2.1
    have hr := hf.2.2.2.1
    have a1 := at_le hf.1 hc hf.2.2.2.2.1 (p := (p : Int)) (by omega)
    have a2 := at_le hf.2.1 hr hf.2.2.2.2.1 (p := (q : Int)) (by omega)
    rw [show k + (n + 1) + 1 = (k + n + 1) + 1 by omega, terrain_Peaks.l1, if_pos (by omega), terrain_peak_eq hf hn (by omega) (by omega) _ (by omega), Option.bind_some, a1.1, a2.1, show wrap64 ((p : Int) + 1) = ((p + 1 : Nat) : Int) by rw [w64 (by omega)]; omega, pkRow]
    cases hpk : peakB l c r (p : Int) (q : Int) with
    | true =>
      rw [if_pos rfl, if_pos (by omega), if_pos rfl, tp_row q hq n (p + 1) _ k (by omega) (by rw [List.length_append, List.length_singleton]; omega) hk, List.append_assoc]
    | false =>
      rw [if_neg (by decide), if_neg (by decide), tp_row q hq n (p + 1) _ k (by omega) (by omega) hk, List.nil_append]
theorem tp_rows : ∀ (n q : Nat) (acc : List S23) (k : Nat), q + n = R → acc.length + n * C ≤ 100000 → 300 ≤ k →
    terrain_Peaks.l0 (k + n * (C + 2) + 1) acc r (q : Int) x y c r s l = some (acc ++ pkAll l c r x y s C q n, 0)
  | 0, q, acc, k, hq, ha, hk => by
    rw [Nat.zero_mul, Nat.add_zero, terrain_Peaks.l0, if_neg (by omega), pkAll, List.append_nil]
  | n + 1, q, acc, k, hq, ha, hk => by
    have e : (n + 1) * (C + 2) = n * (C + 2) + C + 2 := by rw [Nat.add_mul, Nat.one_mul]; omega
    have e2 : (n + 1) * C = n * C + C := by rw [Nat.add_mul, Nat.one_mul]
    rw [e, terrain_Peaks.l0, if_pos (by omega)]
    have := tp_row h0 C R hC hR q (by omega) C 0 acc (k + n * (C + 2) + 1) (by omega) (by omega) (by omega)
    rw [show k + n * (C + 2) + 1 + C + 1 = k + (n * (C + 2) + C + 2) by omega, show ((0 : Nat) : Int) = 0 from rfl] at this
    have hl := pkRow_len l c r x y s q C 0
    rw [this, tp_rows n (q + 1) _ k (by omega) (by rw [List.length_append]; omega) hk, pkAll, List.append_assoc]
end
theorem grid_le {C R : Nat} (hC : C ≤ 64) (hR : R ≤ 64) : R * C ≤ 4096 ∧ R * (C + 2) ≤ 4224 :=
  ⟨Nat.mul_le_mul hR hC, Nat.mul_le_mul hR (show C + 2 ≤ 66 by omega)⟩
theorem terrain_Peaks_eq (x y c r s : Int) (l : List Int) (hl : l.length ≤ 4200) (k : Nat) (hk : 9000 ≤ k) : terrain_Peaks.f k x y c r s l = some (peaksS x y c r s l) := by
  unfold terrain_Peaks.f peaksS
  rw [terrain_Check_eq x y c r s l hl k (by omega), Option.bind_some]
  by_cases h0 : chkS x y c r s l = 0
  case neg => rw [if_neg h0, if_neg h0]
  have hf := (chkS_zero h0).1
  have hc := hf.2.2.1
  have hr := hf.2.2.2.1
  have hle := grid_le (C := c.toNat) (R := r.toNat) (by omega) (by omega)
  rw [if_pos h0, if_pos h0]
  have := tp_rows h0 c.toNat r.toNat (by omega) (by omega) r.toNat 0 [] (k - (r.toNat * (c.toNat + 2) + 1)) (by omega) (by rw [List.length_nil]; omega) (by omega)
  rw [show k - (r.toNat * (c.toNat + 2) + 1) + r.toNat * (c.toNat + 2) + 1 = k by omega] at this
  exact this
theorem same43_loop (l : List S23) (hl : l.length ≤ 100000) : ∀ (m i k : Nat), i + m = l.length → m + 1 ≤ k → mapsheetsref43_Same.l0 k l l (i : Int) = some true
  | 0, i, k, hi, hk => by
    obtain ⟨k, rfl⟩ : ∃ j, k = j + 1 := ⟨k - 1, by omega⟩
    rw [mapsheetsref43_Same.l0, if_neg (by omega)]
  | m + 1, i, k, hi, hk => by
    obtain ⟨k, rfl⟩ : ∃ j, k = j + 1 := ⟨k - 1, by omega⟩
    rw [mapsheetsref43_Same.l0, if_pos (by omega), if_pos (by omega), if_pos (by omega), beq_self_eq_true, beq_self_eq_true, if_neg (by decide), show wrap64 ((i : Int) + 1) = ((i + 1 : Nat) : Int) by rw [w64 (by omega)]; omega]
    exact same43_loop l hl m (i + 1) k (by omega) (by omega)
theorem same43_eq (l : List S23) (hl : l.length ≤ 100000) (k : Nat) (hk : 100002 ≤ k) : mapsheetsref43_Same.f k l l = some true := by
  unfold mapsheetsref43_Same.f
  rw [if_pos rfl]
  exact same43_loop l hl l.length 0 k (by omega) (by omega)
theorem peaksS_len (x y c r s : Int) (l : List Int) : (peaksS x y c r s l).1.length ≤ 4096 := by
  unfold peaksS
  by_cases h0 : chkS x y c r s l = 0
  · have hf := (chkS_zero h0).1
    have hc := hf.2.2.1
    have hr := hf.2.2.2.1
    have hle := grid_le (C := c.toNat) (R := r.toNat) (by omega) (by omega)
    rw [if_pos h0]
    exact Nat.le_trans (pkAll_len _ _ _ _ _ _ _ _ _) hle.1
  · rw [if_neg h0]; exact Nat.zero_le _
end Go.Proofs.Ytachglfhgcdobaa.PAll
end
section
namespace Go.Proofs.Ytachglfhgcdobaa.PAll
open Go.RowKit Go.Proofs.YtachglfhgcdobaaW.PrintWords Go.Proofs.YtachglfhgcdobaaW.PrintLast
set_option linter.unusedVariables false
theorem makeS_form {n s : Int} (hn : -99999999999 ≤ n ∧ n ≤ 99999999999) (hs : 1 ≤ s ∧ s ≤ 1048576) : ∃ m t : Int, n = (Int.gcd n s : Int) * m ∧ s = (Int.gcd n s : Int) * t ∧ 0 < (Int.gcd n s : Int) ∧ 0 < t ∧ makeS n s = (m, t, 0) := by
  have hg : 0 < Nat.gcd n.natAbs s.natAbs := gcd_pos_of (a := n) (b := s) (by omega)
  have e : Int.gcd n s = Nat.gcd n.natAbs s.natAbs := rfl
  have d1 := Nat.div_le_self n.natAbs (Nat.gcd n.natAbs s.natAbs)
  have d2 := Nat.div_le_self s.natAbs (Nat.gcd n.natAbs s.natAbs)
  have m1 := Nat.mul_div_cancel' (Nat.gcd_dvd_left n.natAbs s.natAbs)
  have m2 := Nat.mul_div_cancel' (Nat.gcd_dvd_right n.natAbs s.natAbs)
  have pz : 0 < s.natAbs / Nat.gcd n.natAbs s.natAbs := Nat.div_pos (Nat.le_of_dvd (by omega) (Nat.gcd_dvd_right _ _)) hg
  rw [e]
  unfold makeS
  generalize n.natAbs / Nat.gcd n.natAbs s.natAbs = a at *
  generalize s.natAbs / Nat.gcd n.natAbs s.natAbs = b at *
  generalize Nat.gcd n.natAbs s.natAbs = g at *
  have c1 : ((g * a : Nat) : Int) = (g : Int) * (a : Int) := Int.natCast_mul g a
  have c2 : ((g * b : Nat) : Int) = (g : Int) * (b : Int) := Int.natCast_mul g b
  rw [if_neg (by omega), decide_eq_false (show ¬ s < 0 by omega)]
  by_cases hneg : n < 0
  · refine ⟨-(a : Int), (b : Int), ?_, by omega, by omega, by omega, ?_⟩
    · rw [Int.mul_neg, ← c1]; omega
    · rw [decide_eq_true hneg, show (true != false) = true from rfl, if_pos ⟨fitN_true.2 (by omega), by omega⟩, sgnN_true]
  · refine ⟨(a : Int), (b : Int), ?_, by omega, by omega, by omega, ?_⟩
    · rw [← c1]; omega
    · rw [decide_eq_false hneg, show (false != false) = false from rfl, if_pos ⟨fitN_false.2 (by omega), by omega⟩, sgnN_false]
theorem makeS_shift {n s d : Int} (hn : -99999999999 ≤ n ∧ n ≤ 99999999999) (hn' : -99999999999 ≤ n + d * s ∧ n + d * s ≤ 99999999999) (hs : 1 ≤ s ∧ s ≤ 1048576) : makeS (n + d * s) s = ((makeS n s).1 + d * (makeS n s).2.1, (makeS n s).2.1, 0) := by
  obtain ⟨m, t, e1, e2, g0, t0, e3⟩ := makeS_form hn hs
  obtain ⟨m', t', f1, f2, _, _, f3⟩ := makeS_form hn' hs
  have hg : Int.gcd (n + d * s) s = Int.gcd n s := Int.gcd_add_mul_right_left s n d
  rw [hg] at f1 f2
  rw [e3, f3]
  have ht : t' = t := Int.eq_of_mul_eq_mul_left (a := (Int.gcd n s : Int)) (by omega) (by rw [← f2, ← e2])
  have hm : m' = m + d * t := by
    refine Int.eq_of_mul_eq_mul_left (a := (Int.gcd n s : Int)) (by omega) ?_
    rw [← f1, Int.mul_add, ← e1, ← Int.mul_assoc, Int.mul_comm _ d, Int.mul_assoc, ← e2]
  rw [ht, hm]
theorem interp_shift (s a b c d u v e : Int) : interp s (a + e) (b + e) (c + e) (d + e) u v = interp s a b c d u v + e * s := by
  unfold interp
  rw [Int.add_mul, show b + e - (a + e) = b - a by omega, show d + e - (b + e) = d - b by omega, show c + e - (a + e) = c - a by omega, show d + e - (c + e) = d - c by omega]
  split <;> omega
section
set_option linter.unusedSectionVars false
variable {x y c r s : Int} {l : List Int} (hf : fits x y c r s) (hn : (l.length : Int) = c * r) (hb : hasBad l = false)
include hf hn hb
theorem numS_range {X Y : Int} (hr : reach x y c r s X Y) : -62914560000 ≤ numS x y c r s l X Y ∧ numS x y c r s l X Y ≤ 62914560000 := by
  obtain ⟨fx, fy, fc, fr, fs, fX, fY⟩ := hf
  have hf : fits x y c r s := ⟨fx, fy, fc, fr, fs, fX, fY⟩
  obtain ⟨_, C0, C1, u0, u1, _, _⟩ := cell_ok (X := X) fx fc fs hr.1 fX
  obtain ⟨_, R0, R1, v0, v1, _, _⟩ := cell_ok (X := Y) fy fr fs hr.2 fY
  unfold numS
  exact (interp_range (hgt_range hf hn hb (by omega) (by omega)) (hgt_range hf hn hb (by omega) (by omega)) (hgt_range hf hn hb (by omega) (by omega)) (hgt_range hf hn hb (by omega) (by omega)) ⟨u0, u1⟩ ⟨v0, v1⟩ fs).1
theorem numS_shift {L : List Int} {e : Int} (hh : ∀ p q : Int, (0 ≤ p ∧ p < c) → (0 ≤ q ∧ q < r) → hgt L c p q = hgt l c p q + e) {X Y : Int} (hr : reach x y c r s X Y) : numS x y c r s L X Y = numS x y c r s l X Y + e * s := by
  obtain ⟨fx, fy, fc, fr, fs, fX, fY⟩ := hf
  obtain ⟨_, C0, C1, _⟩ := cell_ok (X := X) fx fc fs hr.1 fX
  obtain ⟨_, R0, R1, _⟩ := cell_ok (X := Y) fy fr fs hr.2 fY
  unfold numS
  rw [hh _ _ (by omega) (by omega), hh _ _ (by omega) (by omega), hh _ _ (by omega) (by omega), hh _ _ (by omega) (by omega), interp_shift]
end
theorem peakB_shift {l L : List Int} {c r e : Int} (hh : ∀ p q : Int, (0 ≤ p ∧ p < c) → (0 ≤ q ∧ q < r) → hgt L c p q = hgt l c p q + e) {p q : Int} (hp : 0 ≤ p ∧ p < c) (hq : 0 ≤ q ∧ q < r) : peakB L c r p q = peakB l c r p q := by
  by_cases h : peakP l c r p q
  · rw [peakB_pos h]
    refine peakB_pos (fun p' q' a b d f g => ?_)
    have := h p' q' a b d f g
    rw [hh p' q' a b, hh p q hp hq]; omega
  · rw [peakB_neg h]
    refine peakB_neg (fun h2 => h (fun p' q' a b d f g => ?_))
    have := h2 p' q' a b d f g
    rw [hh p' q' a b, hh p q hp hq] at this; omega
theorem pkRow_congr {l L : List Int} {c r x y s : Int} {q : Nat} : ∀ n p, (∀ i : Nat, p ≤ i → i < p + n → peakB L c r (i : Int) (q : Int) = peakB l c r (i : Int) (q : Int)) → pkRow L c r x y s q p n = pkRow l c r x y s q p n
  | 0, _, _ => rfl
  | n + 1, p, h => by rw [pkRow, pkRow, h p (by omega) (by omega), pkRow_congr n (p + 1) (fun i h1 h2 => h i (by omega) (by omega))]
theorem pkAll_congr {l L : List Int} {c r x y s : Int} {C : Nat} : ∀ n q, (∀ i j : Nat, i < C → q ≤ j → j < q + n → peakB L c r (i : Int) (j : Int) = peakB l c r (i : Int) (j : Int)) → pkAll L c r x y s C q n = pkAll l c r x y s C q n
  | 0, _, _ => rfl
  | n + 1, q, h => by rw [pkAll, pkAll, pkRow_congr C 0 (fun i _ h2 => h i q (by omega) (by omega) (by omega)), pkAll_congr n (q + 1) (fun i j h1 h2 h3 => h i j h1 (by omega) (by omega))]
end Go.Proofs.Ytachglfhgcdobaa.PAll
end
section
namespace Go.Proofs.Ytachglfhgcdobaa.Pure
open Go.RowKit Go.Proofs.Ytachglfhgcdobaa.PAll Go.Proofs.YtachglfhgcdobaaW.PrintWords Go.Proofs.YtachglfhgcdobaaW.PrintLast
theorem rd_map (l : List Int) (g : Int → Int) {i : Int} (h0 : 0 ≤ i) (h1 : i < l.length) : rd (l.map g) i = g (rd l i) := by
  obtain ⟨n, rfl⟩ : ∃ n : Nat, i = n := ⟨i.toNat, by omega⟩
  have hn : n < l.length := by omega
  rw [rd_get l n hn, rd_get (l.map g) n (by rw [List.length_map]; exact hn), List.getElem_map]
theorem hgt_map {l : List Int} {c r : Int} (g : Int → Int) (hn : (l.length : Int) = c * r) {a b : Int} (ha : 0 ≤ a ∧ a < c) (hb : 0 ≤ b ∧ b < r) : hgt (l.map g) c a b = g (hgt l c a b) := by
  have := cell_lt ha hb
  unfold hgt; exact rd_map l g this.1 (by omega)
theorem i16wf {a : Int} (h : (Lit.int .i16 a).wf = true) : -32768 ≤ a ∧ a ≤ 32767 := by
  simp only [Lit.wf, IntKind.min, IntKind.max, IntKind.signed, IntKind.bits, Bool.and_eq_true] at h
  exact ⟨by have := h.1; simp at this; omega, by have := h.2; simp at this; omega⟩
theorem raise_loop (a x y c r s X Y x' y' c' r' s' : Int) (l : List Int) (hl : l.length ≤ 4200) : ∀ (m i k : Nat) (acc : List Int), i + m = l.length → acc.length + m ≤ 10000 → mapsheetslaw43_TerrainRises.l0 (k + m + 1) a (i : Int) x y c r s l X Y x' y' c' r' s' acc = mapsheetslaw43_TerrainRises.l0 (k + 1) a (l.length : Int) x y c r s l X Y x' y' c' r' s' (acc ++ (l.drop i).map (fun v => wrap64 (v + wrap64 a)))
  | 0, i, k, acc, hi, ha => by
    have : i = l.length := by omega
    subst this
    rw [List.drop_eq_nil_of_le (Nat.le_refl _), List.map_nil, List.append_nil, Nat.add_zero]
  | m + 1, i, k, acc, hi, ha => by
    have hlt : i < l.length := by omega
    rw [show k + (m + 1) + 1 = (k + m + 1) + 1 by omega, mapsheetslaw43_TerrainRises.l0, if_pos (by omega), if_pos (by omega), if_pos (by omega), rd_get l i hlt, show wrap64 ((i : Int) + 1) = ((i + 1 : Nat) : Int) by rw [w64 (by omega)]; omega]
    rw [raise_loop a x y c r s X Y x' y' c' r' s' l hl m (i + 1) k _ (by omega) (by rw [List.length_append, List.length_singleton]; omega), List.drop_eq_getElem_cons hlt, List.map_cons, List.append_assoc]
    rfl
theorem TerrainRises : mapsheetslaw43_TerrainRises.Pure := by
  intro x y c r s l a X Y w1 w2 w3 w4 w5 w6 w7 w8 w9 w10
  have ha := i16wf w8
  have hX := i64wf w9
  have hY := i64wf w10
  suffices h : ∀ k, 9223372036854785000 ≤ k → mapsheetslaw43_TerrainRises.f k x y c r s l a X Y = some true from ⟨9223372036854785000, h _ (Nat.le_refl _)⟩
  intro k hk
  obtain ⟨k, rfl⟩ : ∃ j, k = j + 2 := ⟨k - 2, by omega⟩
  unfold mapsheetslaw43_TerrainRises.f
  rw [light_eq, Option.bind_some]
  by_cases hl' : (l.length : Int) ≤ 4200
  case neg => rw [if_neg (by rw [decide_eq_true_eq]; exact hl'), awake_eq _ (by omega), Option.bind_some]
  have hl : l.length ≤ 4200 := by omega
  rw [if_pos (decide_eq_true hl')]
  have hloop := raise_loop a x y c r s X Y x y c r s l hl l.length 0 (k + 1 - l.length) [] (by omega) (by rw [List.length_nil]; omega)
  rw [show k + 1 - l.length + l.length + 1 = k + 2 by omega, List.nil_append, List.drop_zero, show ((0 : Nat) : Int) = 0 from rfl] at hloop
  rw [hloop]
  obtain ⟨j, hj⟩ : ∃ j, k + 1 - l.length = j + 1 := ⟨k - l.length, by omega⟩
  rw [hj, mapsheetslaw43_TerrainRises.l0, if_neg (by omega)]
  generalize hL : l.map (fun v => wrap64 (v + wrap64 a)) = L
  have hLl : L.length ≤ 4200 := by rw [← hL, List.length_map]; exact hl
  have j1t : ∀ x y c r s l X Y x' y' c' r' s' L, mapsheetslaw43_TerrainRises.j1 (j + 1) a true x y c r s l X Y x' y' c' r' s' L = some true := by
    intro x y c r s l X Y x' y' c' r' s' L
    rw [mapsheetslaw43_TerrainRises.j1, if_pos rfl, awake_eq _ (by omega), Option.bind_some]
  rw [terrain_Check_eq x y c r s l hl _ (by omega), Option.bind_some]
  by_cases h0 : chkS x y c r s l = 0
  case neg => rw [if_neg h0, j1t]
  rw [if_pos h0, terrain_Check_eq x y c r s L hLl _ (by omega), Option.bind_some]
  by_cases h1 : chkS x y c r s L = 0
  case neg => rw [bne_iff_ne.2 h1, j1t]
  rw [h1, bne_self_eq_false, mapsheetslaw43_TerrainRises.j1, if_neg (by decide)]
  obtain ⟨hf, hn, hb⟩ := chkS_zero h0
  obtain ⟨_, hN, hB⟩ := chkS_zero h1
  have hc := hf.2.2.1
  have hr := hf.2.2.2.1
  have fs := hf.2.2.2.2.1
  have hh : ∀ p q : Int, (0 ≤ p ∧ p < c) → (0 ≤ q ∧ q < r) → hgt L c p q = hgt l c p q + a := by
    intro p q hp hq
    have hr1 := hgt_range hf hn hb hp hq
    rw [← hL, hgt_map _ hn hp hq, w64 (x := a) (by omega), w64 (by omega)]
  have hpk : peaksS x y c r s L = peaksS x y c r s l := by
    unfold peaksS
    rw [if_pos h0, if_pos h1, pkAll_congr _ _ (fun i j q1 q2 q3 => peakB_shift hh (by omega) (by omega))]
  have hlen := peaksS_len x y c r s l
  have hpe : (peaksS x y c r s l).2 = 0 := by unfold peaksS; rw [if_pos h0]
  rw [terrain_Height_eq x y c r s l hl hX hY _ (by omega), Option.bind_some, terrain_Height_eq x y c r s L hLl hX hY _ (by omega), Option.bind_some, terrain_Peaks_eq x y c r s l hl _ (by omega), Option.bind_some, terrain_Peaks_eq x y c r s L hLl _ (by omega), Option.bind_some, awake_eq _ (by omega), Option.bind_some, if_pos rfl, hpk]
  have key : (heightS x y c r s l X Y).2.2 = (heightS x y c r s L X Y).2.2 ∧ (heightS x y c r s L X Y).2.1 = (heightS x y c r s l X Y).2.1 ∧ (heightS x y c r s L X Y).1 = wrap64 ((heightS x y c r s l X Y).1 + wrap64 (wrap64 a * (heightS x y c r s l X Y).2.1)) := by
    unfold heightS
    rw [if_pos h0, if_pos h1]
    by_cases hre : reach x y c r s X Y
    case neg =>
      rw [if_neg hre, if_neg hre]
      refine ⟨rfl, rfl, ?_⟩
      show (0 : Int) = wrap64 (0 + wrap64 (wrap64 a * 0))
      rw [Int.mul_zero, w64 (x := 0) (by omega), w64 (x := 0 + 0) (by omega)]; rfl
    rw [if_pos hre, if_pos hre, numS_shift hf hn hb hh hre]
    have nr := numS_range hf hn hb hre
    have nR := numS_range hf hN hB hre
    rw [numS_shift hf hn hb hh hre] at nR
    have as_le : -34359738368 ≤ a * s ∧ a * s ≤ 34359738368 := by
      have p1 : a * s ≤ 32768 * s := Int.mul_le_mul_of_nonneg_right (by omega) (by omega)
      have p2 : -32768 * s ≤ a * s := Int.mul_le_mul_of_nonneg_right (by omega) (by omega)
      omega
    obtain ⟨m, t, e1, e2, g0, t0, e3⟩ := makeS_form (n := numS x y c r s l X Y) (by omega) fs
    have ht : t ≤ s := by
      have : 1 * t ≤ (Int.gcd (numS x y c r s l X Y) s : Int) * t := Int.mul_le_mul_of_nonneg_right (by omega) (by omega)
      omega
    have hm : -99999999999 ≤ m ∧ m ≤ 99999999999 := by
      by_cases hp : 0 ≤ m
      · have : 1 * m ≤ (Int.gcd (numS x y c r s l X Y) s : Int) * m := Int.mul_le_mul_of_nonneg_right (by omega) hp
        omega
      · have : 1 * (-m) ≤ (Int.gcd (numS x y c r s l X Y) s : Int) * (-m) := Int.mul_le_mul_of_nonneg_right (by omega) (by omega)
        rw [Int.mul_neg, Int.mul_neg, Int.one_mul] at this; omega
    have at_ : -34359738368 ≤ a * t ∧ a * t ≤ 34359738368 := by
      have p1 : a * t ≤ 32768 * t := Int.mul_le_mul_of_nonneg_right (by omega) (by omega)
      have p2 : -32768 * t ≤ a * t := Int.mul_le_mul_of_nonneg_right (by omega) (by omega)
      omega
    rw [makeS_shift (by omega) (by omega) fs, e3]
    refine ⟨rfl, rfl, ?_⟩
    show m + a * t = wrap64 (m + wrap64 (wrap64 a * t))
    rw [w64 (x := a) (by omega), w64 (x := a * t) (by omega), w64 (by omega)]
  rw [if_pos key.1, if_pos key.2.1, if_pos key.2.2, same43_eq _ (by omega) _ (by omega), Option.bind_some, if_pos rfl, hpe, if_pos rfl]; rfl
end Go.Proofs.Ytachglfhgcdobaa.Pure
end
section
namespace Go.Proofs.YtachglfhgcdobaaOpen
open Go.RowKit Go.Proofs.YtachglfhgcdobaaW.PrintWords
set_option linter.unusedVariables false
theorem choose_list {α : Type} {Q : Nat → α → Prop} : ∀ n, (∀ i, i < n → ∃ x, Q i x) → ∃ xs : List α, xs.length = n ∧ ∀ (i : Nat) (x : α), xs[i]? = some x → Q i x
  | 0, _ => ⟨[], rfl, fun i x h => by simp at h⟩
  | n + 1, h => by
    obtain ⟨xs, hl, hq⟩ := choose_list n (fun i hi => h i (by omega))
    obtain ⟨x, hx⟩ := h n (by omega)
    refine ⟨xs ++ [x], by simp [hl], fun i y hy => ?_⟩
    rcases Nat.lt_or_ge i xs.length with hlt | hge
    · rw [List.getElem?_append_left hlt] at hy; exact hq i y hy
    · rw [List.getElem?_append_right hge] at hy
      have : i - xs.length = 0 := by
        rcases Nat.eq_zero_or_pos (i - xs.length) with h0 | h0
        · exact h0
        · rw [List.getElem?_eq_none (by simp; omega)] at hy; cases hy
      rw [this] at hy
      simp at hy
      subst hy
      have : i = n := by omega
      subst this
      exact hx
def Opens {α : Type} (P : Program) (t : TypeId) (d : Kd α) (wf : α → Prop) : Prop :=
  ∀ (H : Type) (enc : TypeId × Value → H) (W : World) (fuel : Nat) (cs : List Value) (dd : DataW H) (ps : List MemPlace),
    DataW.trod enc P W 0 (fun _ => true) true fuel t cs = some (dd, ps) → (∀ n ∈ dd.weights P t, n ≤ reachBytes) → ∃ x, d.K W x cs ∧ wf x
section
variable {P : Program} {t : TypeId}
theorem Opens.int {k : IntKind} (hu : P.underlying t = some (.int k)) : Opens P t (Kd.int k) (fun x => (Lit.int k x).wf = true) := by
  intro H enc W fuel cs dd ps h hz
  obtain ⟨n, rfl, _, hw⟩ := DataW.trod_int hu h
  exact ⟨n, rfl, hw⟩
theorem Opens.bool (hu : P.underlying t = some .bool) : Opens P t Kd.bool (fun _ => True) := by
  intro H enc W fuel cs dd ps h hz
  obtain ⟨n, rfl, _⟩ := DataW.trod_bool hu h
  exact ⟨n, rfl, trivial⟩
theorem Opens.iso {α β : Type} {d : Kd α} {wf : α → Prop} (h : Opens P t d wf) (f : β → α) (g : α → β) (hg : ∀ y, f (g y) = y) : Opens P t (Kd.iso d f) (fun x => wf (f x)) := by
  intro H enc W fuel cs dd ps hh hz
  obtain ⟨x, hK, hw⟩ := h H enc W fuel cs dd ps hh hz
  exact ⟨g x, by show d.K W (f (g x)) cs; rw [hg]; exact hK, by show wf (f (g x)); rw [hg]; exact hw⟩
theorem weightsAll_mem {H : Type} {e : TypeId} : ∀ {ds : List (DataW H)} {d : DataW H}, d ∈ ds → ∀ n ∈ d.weights P e, n ∈ DataW.weightsAll P e ds
  | d0 :: ds, d, hd, n, hn => by
    rw [DataW.weightsAll, List.mem_append]
    rcases List.mem_cons.1 hd with rfl | hd
    · exact .inl hn
    · exact .inr (weightsAll_mem hd n hn)
theorem Opens.slice {α : Type} {d : Kd α} {wf : α → Prop} {e : TypeId} {B : Nat} (hu : P.underlying t = some (.slice e)) (h : Opens P e d wf) (hc : P.cellsOf e = d.sz) (hB : P.bytesOf e = B) :
    Opens P t (Kd.slice e d) (fun xs => xs.length * B ≤ 140737488351232 ∧ ∀ x ∈ xs, wf x) := by
  intro H enc W fuel cs dd ps hh hz
  rcases Deep.open_slice hu hh with ⟨rfl, _⟩ | ⟨a, len, cap, m, n, D, Pl, rfl, _, hl, hm, hmm, hx, hel⟩
  · exact ⟨[], ⟨none, 0, rfl, Nat.le_refl _, rfl, by simp, fun h0 => absurd h0 (by simp)⟩, by simp, by simp⟩
  obtain ⟨rfl, _⟩ := Prod.mk.inj hx
  simp only [if_true] at hmm
  subst hmm
  have hw1 : (len + (m - len)) * P.bytesOf e ≤ reachBytes := hz _ (by simp [DataW.weights, hu])
  have key : ∀ i, i < len → ∃ x, wf x ∧ ∃ c, c.length = d.sz ∧ d.K W x c ∧ ∀ j u, c[j]? = some u → W.cell? (a.add (i * d.sz + j)) = some u := by
    intro i hi
    obtain ⟨cs', h1, h2⟩ := hel i (by omega)
    obtain ⟨x, hK, hw⟩ := h H enc W n cs' (D i) (Pl i) h2 (fun n hn => hz n (by
      simp only [DataW.weights, hu, List.mem_cons, List.mem_append]
      exact .inr (.inl (weightsAll_mem (List.mem_map.2 ⟨i, by simpa using hi, rfl⟩) n hn))))
    obtain ⟨_, hlen, hcell⟩ := World.cells?_some h1
    refine ⟨x, hw, cs', by rw [hlen, hc], hK, fun j u hu' => ?_⟩
    have hj : j < P.cellsOf e := by rw [← hlen]; exact (List.getElem?_eq_some_iff.1 hu').1
    have := hcell j hj
    rw [Addr.add_add, hc] at this
    rw [this, hu']
  obtain ⟨xs, hxl, hxs⟩ := choose_list len key
  subst hxl
  refine ⟨xs, ⟨some a, m, rfl, hl, rfl, by unfold maxLen at hm; omega, fun _ => ⟨a, rfl, fun j p hj => (hxs j p hj).2⟩⟩, ?_, ?_⟩
  · rw [hB] at hw1
    exact Nat.le_trans (Nat.mul_le_mul_right _ (by omega)) hw1
  · intro x hx
    obtain ⟨i, hi⟩ := List.getElem?_of_mem hx
    exact (hxs i x hi).1
def OpensP {α : Type} (P : Program) (o : Nat) (L : List (TypeId × Nat)) (e : Nat) (d : Kd α) (wf : α → Prop) : Prop :=
  ∀ (H : Type) (enc : TypeId × Value → H) (W : World) (n : Nat) (cs : List Value) (xs : List (DataW H × List MemPlace)), cs.length = e → xs.length = L.length →
    (∀ (i : Nat) (f : TypeId × Nat), L[i]? = some f → DataW.trod enc P W 0 (fun _ => true) true n f.1 ((cs.drop f.2).take (P.cellsOf f.1)) = xs[i]?) →
    (∀ k ∈ DataW.weightsEach P (L.map (·.1)) (xs.map (·.1)), k ≤ reachBytes) → ∃ x, d.K W x (cs.drop o) ∧ wf x
theorem OpensP.one {α : Type} {d : Kd α} {wf : α → Prop} {o s e : Nat} (h : Opens P t d wf) (hs : P.cellsOf t = s) (he : o + s = e) : OpensP P o [(t, o)] e d wf := by
  subst he hs
  intro H enc W n cs xs hcs hxs hf hz
  have h1 := hf 0 (t, o) rfl
  rw [List.take_of_length_le (by show (cs.drop o).length ≤ P.cellsOf t; rw [List.length_drop]; omega)] at h1
  rw [List.getElem?_eq_getElem (by rw [hxs]; exact Nat.zero_lt_one)] at h1
  match xs, hxs with
  | [x0], _ =>
    exact h H enc W n _ x0.1 x0.2 (by simpa using h1) (fun k hk => hz k (by simp [DataW.weightsEach, hk]))
theorem OpensP.cons {α β : Type} {d : Kd α} {d2 : Kd β} {wf : α → Prop} {wf2 : β → Prop} {o s o2 e : Nat} {L : List (TypeId × Nat)} (h : Opens P t d wf) (hs : P.cellsOf t = s) (he : o + s = o2) (h2 : OpensP P o2 L e d2 wf2) :
    OpensP P o ((t, o) :: L) e (Kd.pair d d2) (fun x => wf x.1 ∧ wf2 x.2) := by
  subst he hs
  intro H enc W n cs xs hcs hxs hf hz
  match xs, hxs with
  | x0 :: xs, hxs =>
    have h1 := hf 0 (t, o) rfl
    obtain ⟨x, hK, hw⟩ := h H enc W n _ x0.1 x0.2 (by simpa using h1) (fun k hk => hz k (by simp [DataW.weightsEach, hk]))
    obtain ⟨y, hK2, hw2⟩ := h2 H enc W n cs xs hcs (by simpa using hxs) (fun i f hi => by simpa using hf (i + 1) f (by simpa using hi)) (fun k hk => hz k (by simp only [List.map_cons, DataW.weightsEach, List.mem_append]; exact .inr hk))
    refine ⟨(x, y), ⟨_, _, ?_, hK, hK2⟩, hw, hw2⟩
    rw [← List.drop_drop, List.take_append_drop]
theorem Opens.struct {α : Type} {d : Kd α} {wf : α → Prop} {fs : Array Field} {L : List (TypeId × Nat)} {e : Nat} (hu : P.underlying t = some (.struct fs)) (hL : fs.toList.map (fun f => (f.type, f.offset)) = L) (hc : P.cellsOf t = e) (h : OpensP P 0 L e d wf) : Opens P t d wf := by
  intro H enc W fuel cs dd ps hh hz
  obtain ⟨xs, n, rfl, hx, hcs, hxs, hf⟩ := DataW.trod_struct hu hh
  obtain ⟨rfl, _⟩ := Prod.mk.inj hx
  subst hL
  obtain ⟨x, hK, hw⟩ := h H enc W n cs xs (by rw [hcs, hc]) (by simpa using hxs) (fun i f hi => by
    rw [List.getElem?_map, Option.map_eq_some_iff] at hi
    obtain ⟨g, hg, rfl⟩ := hi
    exact hf i g (by simpa using hg)) (fun k hk => hz k (by
      simp only [DataW.weights, hu]
      rw [List.map_map] at hk
      exact hk))
  exact ⟨x, by simpa using hK, hw⟩
theorem okWide_agg_struct {W : World} {r : Reach} {base : Nat} {v : Value} {fs : Array Field} (hu : P.underlying t = some (.struct fs)) (h : Value.okWide P W r base t v) : ∃ cs, v = .agg cs := by
  unfold Value.okWide at h
  rw [hu] at h
  obtain ⟨cs, h, _⟩ := h
  exact ⟨cs, h⟩
theorem weightsEach_rep {H : Type} {e : TypeId} : ∀ (ds : List (DataW H)), DataW.weightsEach P (List.replicate ds.length e) ds = DataW.weightsAll P e ds
  | [] => by simp [DataW.weightsEach, DataW.weightsAll]
  | d :: ds => by rw [List.length_cons, List.replicate_succ, DataW.weightsEach, DataW.weightsAll, weightsEach_rep ds]
theorem Opens.array {α : Type} {d : Kd α} {wf : α → Prop} {n : Nat} {e : TypeId} {L : List (TypeId × Nat)} {z : Nat} (hu : P.underlying t = some (.array n e)) (hL : (List.range n).map (fun i => (e, i * P.cellsOf e)) = L) (hc : P.cellsOf t = z) (h : OpensP P 0 L z d wf) : Opens P t d wf := by
  intro H enc W fuel cs dd ps hh hz
  obtain ⟨xs, m, rfl, hx, hcs, hxs, hf⟩ := DataW.trod_array hu hh
  obtain ⟨rfl, _⟩ := Prod.mk.inj hx
  subst hL
  obtain ⟨x, hK, hw⟩ := h H enc W m cs xs (by rw [hcs, hc]) (by simpa using hxs) (fun i f hi => by
    rw [List.getElem?_map, Option.map_eq_some_iff] at hi
    obtain ⟨g, hg, rfl⟩ := hi
    obtain ⟨hlt, hg⟩ := List.getElem?_eq_some_iff.1 hg
    simp at hg hlt
    subst hg
    exact hf i hlt) (fun k hk => hz k (by
      simp only [DataW.weights, hu]
      rw [List.map_map] at hk
      rw [← weightsEach_rep]
      have : List.map ((fun x => x.1) ∘ fun i => (e, i * P.cellsOf e)) (List.range n) = List.replicate (xs.map (·.1)).length e := by
        rw [List.length_map, hxs]
        apply List.ext_getElem
        · simp
        · intro i h1 h2; simp
      rw [this] at hk
      exact hk))
  exact ⟨x, by simpa using hK, hw⟩
end
end Go.Proofs.YtachglfhgcdobaaOpen
end
section
namespace Go.Proofs.Ytachglfhgcdobaa.terrainRises
open Go.ChangeShapes Go.WideShapes Go.ChangeAt Go.RowKit Go.Proofs.YtachglfhgcdobaaOpen Go.Proofs.Ytachglfhgcdobaa.PAll Go.Proofs.YtachglfhgcdobaaW.PrintWords Go.Proofs.YtachglfhgcdobaaW.PrintLast
open Go.ChangeMaps (open_string shut_string)
set_option linter.unusedVariables false
theorem own : ownKnob Try.prog.godebug = none := by kernel_rfl
theorem laidOut : laidOutB Try.prog = true := by kernel_rfl
theorem opens23 : Opens Try.prog 23 k23 wf23 := Opens.iso (Opens.struct (L := [(3, 0), (3, 1)]) (e := 2) Try.underlying23 (by first | rfl | kernel_rfl) (by kernel_rfl) (OpensP.cons (o := 0) (s := 1) (o2 := 1) (Opens.int Try.underlying3) (by kernel_rfl) rfl (OpensP.one (o := 1) (s := 1) (e := 2) (Opens.int Try.underlying3) (by kernel_rfl) rfl))) (fun x : S23 => (x.f0, x.f1)) (fun y => (⟨y.1, y.2⟩ : S23)) (fun _ => rfl)
theorem opens26 : Opens Try.prog 26 k26 wf26 := Opens.iso (Opens.struct (L := [(23, 0), (3, 2), (3, 3), (3, 4), (24, 5)]) (e := 6) Try.underlying26 (by first | rfl | kernel_rfl) (by kernel_rfl) (OpensP.cons (o := 0) (s := 2) (o2 := 2) opens23 (by kernel_rfl) rfl (OpensP.cons (o := 2) (s := 1) (o2 := 3) (Opens.int Try.underlying3) (by kernel_rfl) rfl (OpensP.cons (o := 3) (s := 1) (o2 := 4) (Opens.int Try.underlying3) (by kernel_rfl) rfl (OpensP.cons (o := 4) (s := 1) (o2 := 5) (Opens.int Try.underlying3) (by kernel_rfl) rfl (OpensP.one (o := 5) (s := 1) (e := 6) (Opens.slice (B := 8) Try.underlying24 (Opens.int Try.underlying3) (by kernel_rfl) (by kernel_rfl)) (by kernel_rfl) rfl)))))) (fun x : S26 => (x.f0, x.f1, x.f2, x.f3, x.f4)) (fun y => (⟨y.1, y.2.1, y.2.2.1, y.2.2.2.1, y.2.2.2.2⟩ : S26)) (fun _ => rfl)
set_option maxRecDepth 100000 in
theorem lifted (os : Os) (started : os.Started) (H : Type) (enc : TypeId × Value → H) :
    ReturnsInHanded {} Try.checked os 6 .any (Rows.terrainRisesSpec.pre6 enc Try.prog Try.f6 Rows.terrainRisesRow.domain false) (Rows.terrainRisesSpec.post enc Try.prog Try.f6 false true false false) := by
  refine returnsInHanded_of_change_sized (C := Try.checked) own started (by kernel_rfl) Try.func6
    (ChangeSpec.witness6 (enc := enc) (C := Try.checked) false ⟨#[], #[.agg #[.int .i64 0, .int .i64 0, .int .i64 0, .int .i64 0, .int .i64 0, .slice none 0 0], .int .i16 0, .agg #[.int .i64 0, .int .i64 0]], []⟩ 8 (by kernel_rfl) (by kernel_rfl) (by kernel_rfl) (by kernel_rfl)) ?_
  intro W base args ds gs before hval0 hW hcnd hsz0 _
  have hsz : (DataW.weightsEach Try.prog (Try.f6.params.toList ++ Rows.terrainRisesSpec.plain.varTypes Try.prog) (ds ++ gs)).all (· ≤ reachBytes) = true := hsz0
  have hval : ∀ (j : Nat) t v, Try.f6.params[j]? = some t → args[j]? = some v → Value.okWide Try.prog W .any base t v := hval0
  have hW' := hW
  obtain ⟨p, q, hA0, hV, rfl, hfz, hnd⟩ := hW
  have hA : DataW.TrodAll enc Try.prog W 0 (fun _ => true) true Try.f6.params.toList args.toList ds p := hA0
  rw [Try.params6] at hA hval hsz
  obtain ⟨v0, vs0, d0, ds0, p0, q0, hargs, rfl, rfl, h0, r0⟩ := trodAll_cons hA
  obtain ⟨v1, vs1, d1, ds1, p1, q1, rfl, rfl, rfl, h1, r1⟩ := trodAll_cons r0
  obtain ⟨v2, vs2, d2, ds2, p2, q2, rfl, rfl, rfl, h2, r2⟩ := trodAll_cons r1
  obtain ⟨rfl, rfl, rfl⟩ := trodAll_nil r2
  obtain rfl : args = #[v0, v1, v2] := by cases args; simp_all
  obtain ⟨rfl, rfl⟩ := trodVars_none hV
  have k0 := h0
  have lt0 : ∀ x ∈ p0, x.block < W.heap.size := by obtain ⟨m, hm⟩ := k0; exact DataW.trod_lt m _ _ _ hm
  have z0 : ∀ n ∈ d0.weights Try.prog 26, n ≤ reachBytes := fun n hn => by have := List.all_eq_true.1 hsz _ (DataW.weights_mem_each (j := 0) rfl rfl n hn); simpa using this
  obtain ⟨cs0, rfl⟩ := okWide_agg_struct Try.underlying26 (hval 0 26 v0 rfl rfl)
  obtain ⟨fu0, hf0⟩ := h0
  obtain ⟨x0, hK0, hw0⟩ := opens26 _ enc W fu0 _ _ _ hf0 z0
  have o0 := k26_open hK0
  obtain ⟨A0_5, c0_5, e0, hl0_5, hC0_5⟩ := o0
  have e0' : cs0 = #[.int .i64 x0.f0.f0, .int .i64 x0.f0.f1, .int .i64 x0.f1, .int .i64 x0.f2, .int .i64 x0.f3, .slice A0_5 x0.f4.length c0_5] := by apply Array.toList_inj.1; exact e0
  subst e0'
  obtain ⟨⟨hw0_0_0, hw0_0_1⟩, hw0_1, hw0_2, hw0_3, hw0_4⟩ := hw0
  have k1 := h1
  have lt1 : ∀ x ∈ p1, x.block < W.heap.size := by obtain ⟨m, hm⟩ := k1; exact DataW.trod_lt m _ _ _ hm
  have z1 : ∀ n ∈ d1.weights Try.prog 45, n ≤ reachBytes := fun n hn => by have := List.all_eq_true.1 hsz _ (DataW.weights_mem_each (j := 1) rfl rfl n hn); simpa using this
  obtain ⟨a1, rfl, rfl, rfl, w1⟩ := open_int Try.underlying45 (hval 1 45 v1 rfl rfl) h1
  have k2 := h2
  have lt2 : ∀ x ∈ p2, x.block < W.heap.size := by obtain ⟨m, hm⟩ := k2; exact DataW.trod_lt m _ _ _ hm
  have z2 : ∀ n ∈ d2.weights Try.prog 23, n ≤ reachBytes := fun n hn => by have := List.all_eq_true.1 hsz _ (DataW.weights_mem_each (j := 2) rfl rfl n hn); simpa using this
  obtain ⟨cs2, rfl⟩ := okWide_agg_struct Try.underlying23 (hval 2 23 v2 rfl rfl)
  obtain ⟨fu2, hf2⟩ := h2
  obtain ⟨x2, hK2, hw2⟩ := opens23 _ enc W fu2 _ _ _ hf2 z2
  have o2 := k23_open hK2
  have e2 := o2
  have e2' : cs2 = #[.int .i64 x2.f0, .int .i64 x2.f1] := by apply Array.toList_inj.1; exact e2
  subst e2'
  obtain ⟨hw2_0, hw2_1⟩ := hw2
  clear hA0 hval0 hsz0 hsz
  obtain ⟨k, hk⟩ := Pure.TerrainRises x0.f0.f0 x0.f0.f1 x0.f1 x0.f2 x0.f3 x0.f4 a1 x2.f0 x2.f1 hw0_0_0 hw0_0_1 hw0_1 hw0_2 hw0_3 hw0_4.1 hw0_4.2 w1 hw2_0 hw2_1
  refine (mapsheetslaw43_TerrainRises.calls k x0.f0.f0 x0.f0.f1 x0.f1 x0.f2 x0.f3 _ _ x0.f4 a1 x2.f0 x2.f1 true W hC0_5 hl0_5 hk).mono fun e W' ⟨he, bel0⟩ => ?_
  have bel : Below W.heap.size W W' := bel0
  subst he
  exact ⟨_, rfl, _, _, _, [], _, [], hW', trodAll_mk1 (shut_bool Try.underlying4 _), (trodAll_cons_mk (Below.trod laidOut (by kernel_rfl) (of_decide_eq_true (by kernel_rfl)) k0 bel lt0) (trodAll_cons_mk (Below.trod laidOut (by kernel_rfl) (of_decide_eq_true (by kernel_rfl)) k1 bel lt1) (trodAll_cons_mk (Below.trod laidOut (by kernel_rfl) (of_decide_eq_true (by kernel_rfl)) k2 bel lt2) trodAll_mk0))), rfl, bel.frame _, fun h => by cases h⟩
theorem over : Rows.terrainRisesRow.holds Try.pinned (OpenSpec.ofChange Rows.terrainRisesSpec) :=
  OpenClaim.holds_of_wide 6 Try.f6 rfl rfl rfl rfl rfl rfl rfl ⟨rfl, rfl, rfl, rfl, rfl⟩ rfl rfl rfl rfl rfl (by kernel_rfl) Try.func6 (by kernel_rfl)
    (of_decide_eq_true (by kernel_rfl)) (by unfold Func.isWrapper; first | (rw [if_pos (by decide +kernel)]; kernel_rfl) | (rw [if_neg (by decide +kernel)]; exact ⟨rfl, rfl⟩))
    (fun os started H enc _ => lifted os started H enc)
theorem proved : Rows.TerrainRisesSaid := over
#print axioms proved
end Go.Proofs.Ytachglfhgcdobaa.terrainRises
namespace Go.Proofs.Ytachglfhgcdobaa
theorem terrainRises_holds : Rows.TerrainRisesSaid := terrainRises.proved
end Go.Proofs.Ytachglfhgcdobaa
end
