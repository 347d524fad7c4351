-- Written by this session's own program wip/ext.py over the kit's print; not the kit's own print.
import Derived.Test.YtngiipodkbfokaaPAllx0
import Derived.Test.YtngiipodkbfokaaPAllx2
import Derived.Test.YtngiipodkbfokaaPAllx3
import Derived.Test.YtngiipodkbfokaaPAllx4
import Derived.Test.YtngiipodkbfokaaPAllx11
namespace Go.Proofs.Ytngiipodkbfokaa.PAll
open Go.RowKit Go.Proofs.YtngiipodkbfokaaW.PrintWords Go.Proofs.YtngiipodkbfokaaW.PrintLast Go.Proofs.YtngiipodkbfokaaW.PrintMore
attribute [local go_sem] max2_int min2_int max_two min_two max_three min_three max_four min_four   -- for this text's walks alone
set_option linter.unusedVariables false
set_option linter.unusedSimpArgs false

/-! ### mapsheetslaw01_NumDivides: function 3 -/
def mapsheetslaw01_NumDivides.j0 : Nat → Int → Int → Int → Int → Int → Int → Bool → Option (Bool)
  | 0, _, _, _, _, _, _, _ => none
  | k + 1, x0, x1, x5, x7, x9, x12, x81 => if x81 = true then (none) else (if x12 = 0 then (if x1 > 0 then (if (wrap64 (x0 - (wrap64 (x5 * x1)))) < 0 then (none) else (if (wrap64 (x0 - (wrap64 (x5 * x1)))) ≥ x1 then (none) else (if x1 < 0 then (if (wrap64 (x0 - (wrap64 (x5 * x1)))) > 0 then (none) else (if (wrap64 (x0 - (wrap64 (x5 * x1)))) ≤ x1 then (none) else ((mapsheetslaw01_awake.f k).bind fun t252 => (if t252 = true then (if (wrap64 (x0 - (wrap64 (x5 * x1)))) = 0 then (if x7 = x5 then (if x9 = x5 then (some true) else (some (x9 == x7))) else (none)) else (if x7 = (wrap64 (x5 + 1)) then (if x9 = x5 then (some true) else (some (x9 == x7))) else (none))) else (none))))) else ((mapsheetslaw01_awake.f k).bind fun t253 => (if t253 = true then (if (wrap64 (x0 - (wrap64 (x5 * x1)))) = 0 then (if x7 = x5 then (if x9 = x5 then (some true) else (some (x9 == x7))) else (none)) else (if x7 = (wrap64 (x5 + 1)) then (if x9 = x5 then (some true) else (some (x9 == x7))) else (none))) else (none)))))) else (if x1 < 0 then (if (wrap64 (x0 - (wrap64 (x5 * x1)))) > 0 then (none) else (if (wrap64 (x0 - (wrap64 (x5 * x1)))) ≤ x1 then (none) else ((mapsheetslaw01_awake.f k).bind fun t254 => (if t254 = true then (if (wrap64 (x0 - (wrap64 (x5 * x1)))) = 0 then (if x7 = x5 then (if x9 = x5 then (some true) else (some (x9 == x7))) else (none)) else (if x7 = (wrap64 (x5 + 1)) then (if x9 = x5 then (some true) else (some (x9 == x7))) else (none))) else (none))))) else ((mapsheetslaw01_awake.f k).bind fun t255 => (if t255 = true then (if (wrap64 (x0 - (wrap64 (x5 * x1)))) = 0 then (if x7 = x5 then (if x9 = x5 then (some true) else (some (x9 == x7))) else (none)) else (if x7 = (wrap64 (x5 + 1)) then (if x9 = x5 then (some true) else (some (x9 == x7))) else (none))) else (none))))) else ((mapsheetslaw01_awake.f k).bind fun t256 => (some t256)))
def mapsheetslaw01_NumDivides.f (k : Nat) (a0 : Int) (a1 : Int) : Option (Bool) := (num_Floor.f k a0 a1).bind fun bt240 => ((num_Ceil.f k a0 a1).bind fun bt242 => ((num_Round.f k a0 a1).bind fun bt244 => ((mapsheetsref01_Floor.f k a0 a1).bind fun bt246 => ((mapsheetsref01_Ceil.f k a0 a1).bind fun bt248 => ((mapsheetsref01_Round.f k a0 a1).bind fun bt250 => (if bt240.1 = bt246.1 then (if bt242.1 = bt248.1 then (if bt244.1 = bt250.1 then (if bt240.2 = bt246.2 then (if bt242.2 = bt248.2 then (mapsheetslaw01_NumDivides.j0 k a0 a1 bt240.1 bt242.1 bt244.1 bt246.2 (bt244.2 != bt250.2)) else (mapsheetslaw01_NumDivides.j0 k a0 a1 bt240.1 bt242.1 bt244.1 bt246.2 true)) else (mapsheetslaw01_NumDivides.j0 k a0 a1 bt240.1 bt242.1 bt244.1 bt246.2 true)) else (mapsheetslaw01_NumDivides.j0 k a0 a1 bt240.1 bt242.1 bt244.1 bt246.2 true)) else (mapsheetslaw01_NumDivides.j0 k a0 a1 bt240.1 bt242.1 bt244.1 bt246.2 true)) else (mapsheetslaw01_NumDivides.j0 k a0 a1 bt240.1 bt242.1 bt244.1 bt246.2 true)))))))
theorem mapsheetslaw01_NumDivides.mono_l : ∀ k, (∀ y0 y1 y2 y3 y4 y5 y6, LeO (mapsheetslaw01_NumDivides.j0 k y0 y1 y2 y3 y4 y5 y6) (mapsheetslaw01_NumDivides.j0 (k + 1) y0 y1 y2 y3 y4 y5 y6))
  | 0 => fun _ _ _ _ _ _ _ r h => by simp [mapsheetslaw01_NumDivides.j0] at h
  | k + 1 => by
    have ih0 := mapsheetslaw01_NumDivides.mono_l k
    · intro y0 y1 y2 y3 y4 y5 y6
      unfold mapsheetslaw01_NumDivides.j0
      repeat' first
      | (with_reducible exact ih0 _ _ _ _ _ _ _)
      | (with_reducible exact mapsheetslaw01_awake.mono _)
      | (with_reducible exact mapsheetsref01_Ceil.mono _ _ _)
      | (with_reducible exact mapsheetsref01_Floor.mono _ _ _)
      | (with_reducible exact mapsheetsref01_Round.mono _ _ _)
      | (with_reducible exact num_Ceil.mono _ _ _)
      | (with_reducible exact num_Floor.mono _ _ _)
      | (with_reducible exact num_Round.mono _ _ _)
      | (with_reducible exact LeO.refl _)
      | (with_reducible exact LeO.none _)
      | (with_reducible refine LeO.ite ?_ ?_)
      | (with_reducible refine LeO.bind ?_ (fun _ => ?_))
      | exact ih0 _ _ _ _ _ _ _
      | exact mapsheetslaw01_awake.mono _
      | exact mapsheetsref01_Ceil.mono _ _ _
      | exact mapsheetsref01_Floor.mono _ _ _
      | exact mapsheetsref01_Round.mono _ _ _
      | exact num_Ceil.mono _ _ _
      | exact num_Floor.mono _ _ _
      | exact num_Round.mono _ _ _
      | exact LeO.none _
      | refine LeO.ite ?_ ?_
      | refine LeO.bind ?_ (fun _ => ?_)
theorem mapsheetslaw01_NumDivides.mono : ∀ a0 a1 k, LeO (mapsheetslaw01_NumDivides.f k a0 a1) (mapsheetslaw01_NumDivides.f (k + 1) a0 a1) := by
  intro a0 a1 k
  have ih0 := mapsheetslaw01_NumDivides.mono_l k
  unfold mapsheetslaw01_NumDivides.f
  repeat' first
      | (with_reducible exact ih0 _ _ _ _ _ _ _)
      | (with_reducible exact mapsheetslaw01_awake.mono _)
      | (with_reducible exact mapsheetsref01_Ceil.mono _ _ _)
      | (with_reducible exact mapsheetsref01_Floor.mono _ _ _)
      | (with_reducible exact mapsheetsref01_Round.mono _ _ _)
      | (with_reducible exact num_Ceil.mono _ _ _)
      | (with_reducible exact num_Floor.mono _ _ _)
      | (with_reducible exact num_Round.mono _ _ _)
      | (with_reducible exact LeO.refl _)
      | (with_reducible exact LeO.none _)
      | (with_reducible refine LeO.ite ?_ ?_)
      | (with_reducible refine LeO.bind ?_ (fun _ => ?_))
      | exact ih0 _ _ _ _ _ _ _
      | exact mapsheetslaw01_awake.mono _
      | exact mapsheetsref01_Ceil.mono _ _ _
      | exact mapsheetsref01_Floor.mono _ _ _
      | exact mapsheetsref01_Round.mono _ _ _
      | exact num_Ceil.mono _ _ _
      | exact num_Floor.mono _ _ _
      | exact num_Round.mono _ _ _
      | exact LeO.none _
      | refine LeO.ite ?_ ?_
      | refine LeO.bind ?_ (fun _ => ?_)
set_option maxHeartbeats 8000000 in
set_option maxRecDepth 100000 in
theorem mapsheetslaw01_NumDivides.calls (k : Nat) (a0 : Int) (a1 : Int) (r : Bool) (w : World) (h : mapsheetslaw01_NumDivides.f k a0 a1 = some r) :
    Calls Try.prog 3 #[.int .i64 a0, .int .i64 a1] w fun e w' => e = .returned (.bool r) ∧ Below w.heap.size w w' := by
 have HB := Aside0.mk (Below.refl w.heap.size w)
 have H : ((num_Floor.f k a0 a1).bind fun bt240 => ((num_Ceil.f k a0 a1).bind fun bt242 => ((num_Round.f k a0 a1).bind fun bt244 => ((mapsheetsref01_Floor.f k a0 a1).bind fun bt246 => ((mapsheetsref01_Ceil.f k a0 a1).bind fun bt248 => ((mapsheetsref01_Round.f k a0 a1).bind fun bt250 => (if bt240.1 = bt246.1 then (if bt242.1 = bt248.1 then (if bt244.1 = bt250.1 then (if bt240.2 = bt246.2 then (if bt242.2 = bt248.2 then (mapsheetslaw01_NumDivides.j0 k a0 a1 bt240.1 bt242.1 bt244.1 bt246.2 (bt244.2 != bt250.2)) else (mapsheetslaw01_NumDivides.j0 k a0 a1 bt240.1 bt242.1 bt244.1 bt246.2 true)) else (mapsheetslaw01_NumDivides.j0 k a0 a1 bt240.1 bt242.1 bt244.1 bt246.2 true)) else (mapsheetslaw01_NumDivides.j0 k a0 a1 bt240.1 bt242.1 bt244.1 bt246.2 true)) else (mapsheetslaw01_NumDivides.j0 k a0 a1 bt240.1 bt242.1 bt244.1 bt246.2 true)) else (mapsheetslaw01_NumDivides.j0 k a0 a1 bt240.1 bt242.1 bt244.1 bt246.2 true)))))))) = some r := h
 clear h
 replace H := Option.bind_eq_some_iff.mp H
 obtain ⟨⟨t240, t241⟩, A30, H⟩ := H
 replace H : ((num_Ceil.f k a0 a1).bind fun bt242 => ((num_Round.f k a0 a1).bind fun bt244 => ((mapsheetsref01_Floor.f k a0 a1).bind fun bt246 => ((mapsheetsref01_Ceil.f k a0 a1).bind fun bt248 => ((mapsheetsref01_Round.f k a0 a1).bind fun bt250 => (if t240 = bt246.1 then (if bt242.1 = bt248.1 then (if bt244.1 = bt250.1 then (if t241 = bt246.2 then (if bt242.2 = bt248.2 then (mapsheetslaw01_NumDivides.j0 k a0 a1 t240 bt242.1 bt244.1 bt246.2 (bt244.2 != bt250.2)) else (mapsheetslaw01_NumDivides.j0 k a0 a1 t240 bt242.1 bt244.1 bt246.2 true)) else (mapsheetslaw01_NumDivides.j0 k a0 a1 t240 bt242.1 bt244.1 bt246.2 true)) else (mapsheetslaw01_NumDivides.j0 k a0 a1 t240 bt242.1 bt244.1 bt246.2 true)) else (mapsheetslaw01_NumDivides.j0 k a0 a1 t240 bt242.1 bt244.1 bt246.2 true)) else (mapsheetslaw01_NumDivides.j0 k a0 a1 t240 bt242.1 bt244.1 bt246.2 true))))))) = some r := H
 have A3 := Aside0.mk A30
 clear A30
 replace H := Option.bind_eq_some_iff.mp H
 obtain ⟨⟨t242, t243⟩, A40, H⟩ := H
 replace H : ((num_Round.f k a0 a1).bind fun bt244 => ((mapsheetsref01_Floor.f k a0 a1).bind fun bt246 => ((mapsheetsref01_Ceil.f k a0 a1).bind fun bt248 => ((mapsheetsref01_Round.f k a0 a1).bind fun bt250 => (if t240 = bt246.1 then (if t242 = bt248.1 then (if bt244.1 = bt250.1 then (if t241 = bt246.2 then (if t243 = bt248.2 then (mapsheetslaw01_NumDivides.j0 k a0 a1 t240 t242 bt244.1 bt246.2 (bt244.2 != bt250.2)) else (mapsheetslaw01_NumDivides.j0 k a0 a1 t240 t242 bt244.1 bt246.2 true)) else (mapsheetslaw01_NumDivides.j0 k a0 a1 t240 t242 bt244.1 bt246.2 true)) else (mapsheetslaw01_NumDivides.j0 k a0 a1 t240 t242 bt244.1 bt246.2 true)) else (mapsheetslaw01_NumDivides.j0 k a0 a1 t240 t242 bt244.1 bt246.2 true)) else (mapsheetslaw01_NumDivides.j0 k a0 a1 t240 t242 bt244.1 bt246.2 true)))))) = some r := H
 have A4 := Aside0.mk A40
 clear A40
 replace H := Option.bind_eq_some_iff.mp H
 obtain ⟨⟨t244, t245⟩, A50, H⟩ := H
 replace H : ((mapsheetsref01_Floor.f k a0 a1).bind fun bt246 => ((mapsheetsref01_Ceil.f k a0 a1).bind fun bt248 => ((mapsheetsref01_Round.f k a0 a1).bind fun bt250 => (if t240 = bt246.1 then (if t242 = bt248.1 then (if t244 = bt250.1 then (if t241 = bt246.2 then (if t243 = bt248.2 then (mapsheetslaw01_NumDivides.j0 k a0 a1 t240 t242 t244 bt246.2 (t245 != bt250.2)) else (mapsheetslaw01_NumDivides.j0 k a0 a1 t240 t242 t244 bt246.2 true)) else (mapsheetslaw01_NumDivides.j0 k a0 a1 t240 t242 t244 bt246.2 true)) else (mapsheetslaw01_NumDivides.j0 k a0 a1 t240 t242 t244 bt246.2 true)) else (mapsheetslaw01_NumDivides.j0 k a0 a1 t240 t242 t244 bt246.2 true)) else (mapsheetslaw01_NumDivides.j0 k a0 a1 t240 t242 t244 bt246.2 true))))) = some r := H
 have A5 := Aside0.mk A50
 clear A50
 replace H := Option.bind_eq_some_iff.mp H
 obtain ⟨⟨t246, t247⟩, A60, H⟩ := H
 replace H : ((mapsheetsref01_Ceil.f k a0 a1).bind fun bt248 => ((mapsheetsref01_Round.f k a0 a1).bind fun bt250 => (if t240 = t246 then (if t242 = bt248.1 then (if t244 = bt250.1 then (if t241 = t247 then (if t243 = bt248.2 then (mapsheetslaw01_NumDivides.j0 k a0 a1 t240 t242 t244 t247 (t245 != bt250.2)) else (mapsheetslaw01_NumDivides.j0 k a0 a1 t240 t242 t244 t247 true)) else (mapsheetslaw01_NumDivides.j0 k a0 a1 t240 t242 t244 t247 true)) else (mapsheetslaw01_NumDivides.j0 k a0 a1 t240 t242 t244 t247 true)) else (mapsheetslaw01_NumDivides.j0 k a0 a1 t240 t242 t244 t247 true)) else (mapsheetslaw01_NumDivides.j0 k a0 a1 t240 t242 t244 t247 true)))) = some r := H
 have A6 := Aside0.mk A60
 clear A60
 replace H := Option.bind_eq_some_iff.mp H
 obtain ⟨⟨t248, t249⟩, A70, H⟩ := H
 replace H : ((mapsheetsref01_Round.f k a0 a1).bind fun bt250 => (if t240 = t246 then (if t242 = t248 then (if t244 = bt250.1 then (if t241 = t247 then (if t243 = t249 then (mapsheetslaw01_NumDivides.j0 k a0 a1 t240 t242 t244 t247 (t245 != bt250.2)) else (mapsheetslaw01_NumDivides.j0 k a0 a1 t240 t242 t244 t247 true)) else (mapsheetslaw01_NumDivides.j0 k a0 a1 t240 t242 t244 t247 true)) else (mapsheetslaw01_NumDivides.j0 k a0 a1 t240 t242 t244 t247 true)) else (mapsheetslaw01_NumDivides.j0 k a0 a1 t240 t242 t244 t247 true)) else (mapsheetslaw01_NumDivides.j0 k a0 a1 t240 t242 t244 t247 true))) = some r := H
 have A7 := Aside0.mk A70
 clear A70
 replace H := Option.bind_eq_some_iff.mp H
 obtain ⟨⟨t250, t251⟩, A80, H⟩ := H
 replace H : (if t240 = t246 then (if t242 = t248 then (if t244 = t250 then (if t241 = t247 then (if t243 = t249 then (mapsheetslaw01_NumDivides.j0 k a0 a1 t240 t242 t244 t247 (t245 != t251)) else (mapsheetslaw01_NumDivides.j0 k a0 a1 t240 t242 t244 t247 true)) else (mapsheetslaw01_NumDivides.j0 k a0 a1 t240 t242 t244 t247 true)) else (mapsheetslaw01_NumDivides.j0 k a0 a1 t240 t242 t244 t247 true)) else (mapsheetslaw01_NumDivides.j0 k a0 a1 t240 t242 t244 t247 true)) else (mapsheetslaw01_NumDivides.j0 k a0 a1 t240 t242 t244 t247 true)) = some r := H
 have A8 := Aside0.mk A80
 clear A80
 have HC9 := Aside0.mk H
 clear H
 go_enter Try.func3, Try.ntmps3
 go_upto_region 7 with (first | ((with_reducible refine gate_callee (f := 11) rfl ?_); refine goesL_ (some 21) rfl rfl Try.func11 (by kernel_rfl) rfl #[.int .i64 a0, .int .i64 a1] rfl (by (try simp only [List.map_toArray, List.map_cons, List.map_nil]); first | done | rfl | (simp only [List.length_drop, List.length_take]; rfl)) ?_; (with_reducible refine (num_Floor.calls k a0 a1 t240 t241 _ A3.out).mono ?_); rintro e w' ⟨rfl, ⟨nd, rfl⟩⟩; refine ⟨_, rfl, ?_⟩) | ((with_reducible refine gate_callee (f := 12) rfl ?_); refine goesL_ (some 27) rfl rfl Try.func12 (by kernel_rfl) rfl #[.int .i64 a0, .int .i64 a1] rfl (by (try simp only [List.map_toArray, List.map_cons, List.map_nil]); first | done | rfl | (simp only [List.length_drop, List.length_take]; rfl)) ?_; (with_reducible refine (num_Ceil.calls k a0 a1 t242 t243 _ A4.out).mono ?_); rintro e w' ⟨rfl, ⟨nd, rfl⟩⟩; refine ⟨_, rfl, ?_⟩) | ((with_reducible refine gate_callee (f := 13) rfl ?_); refine goesL_ (some 33) rfl rfl Try.func13 (by kernel_rfl) rfl #[.int .i64 a0, .int .i64 a1] rfl (by (try simp only [List.map_toArray, List.map_cons, List.map_nil]); first | done | rfl | (simp only [List.length_drop, List.length_take]; rfl)) ?_; (with_reducible refine (num_Round.calls k a0 a1 t244 t245 _ A5.out).mono ?_); rintro e w' ⟨rfl, ⟨nd, rfl⟩⟩; refine ⟨_, rfl, ?_⟩) | ((with_reducible refine gate_callee (f := 14) rfl ?_); refine goesL_ (some 39) rfl rfl Try.func14 (by kernel_rfl) rfl #[.int .i64 a0, .int .i64 a1] rfl (by (try simp only [List.map_toArray, List.map_cons, List.map_nil]); first | done | rfl | (simp only [List.length_drop, List.length_take]; rfl)) ?_; (with_reducible refine (mapsheetsref01_Floor.calls k a0 a1 t246 t247 _ A6.out).mono ?_); rintro e w' ⟨rfl, ⟨nd, rfl⟩⟩; refine ⟨_, rfl, ?_⟩) | ((with_reducible refine gate_callee (f := 15) rfl ?_); refine goesL_ (some 45) rfl rfl Try.func15 (by kernel_rfl) rfl #[.int .i64 a0, .int .i64 a1] rfl (by (try simp only [List.map_toArray, List.map_cons, List.map_nil]); first | done | rfl | (simp only [List.length_drop, List.length_take]; rfl)) ?_; (with_reducible refine (mapsheetsref01_Ceil.calls k a0 a1 t248 t249 _ A7.out).mono ?_); rintro e w' ⟨rfl, ⟨nd, rfl⟩⟩; refine ⟨_, rfl, ?_⟩) | ((with_reducible refine gate_callee (f := 16) rfl ?_); refine goesL_ (some 51) rfl rfl Try.func16 (by kernel_rfl) rfl #[.int .i64 a0, .int .i64 a1] rfl (by (try simp only [List.map_toArray, List.map_cons, List.map_nil]); first | done | rfl | (simp only [List.length_drop, List.length_take]; rfl)) ?_; (with_reducible refine (mapsheetsref01_Round.calls k a0 a1 t250 t251 _ A8.out).mono ?_); rintro e w' ⟨rfl, ⟨nd, rfl⟩⟩; refine ⟨_, rfl, ?_⟩))
 (try simp only [Act.put, List.setIfInBounds_toArray, List.set_cons_zero, List.set_cons_succ])
 go_cut [81] (fun v81 wc => ∃ (kq : Nat) (x81_8 : Bool), v81 = .bool x81_8 ∧ Aside0 (mapsheetslaw01_NumDivides.j0 kq a0 a1 t240 t242 t244 t247 x81_8 = some r) ∧ Aside0 (kq ≤ k) ∧ Aside0 (Below w.heap.size w wc))
 case first =>
  have H := HC9.out
  clear HC9
  by_cases c10 : t240 = t246
  ·rw [if_pos c10] at H
   have c10b0 : (t240 == t246) = true := beq_iff_eq.mpr c10
   have c10b1 : (t240 != t246) = false := bne_eq_false_iff_eq.mpr c10
   clear c10
   (first | rw [c10b0] | (simp only [i64_w, i32_w]; rw [c10b0]) | skip)
   by_cases c11 : t242 = t248
   ·rw [if_pos c11] at H
    have c11b0 : (t242 == t248) = true := beq_iff_eq.mpr c11
    have c11b1 : (t242 != t248) = false := bne_eq_false_iff_eq.mpr c11
    clear c11
    by_cases c12 : t244 = t250
    ·rw [if_pos c12] at H
     have c12b0 : (t244 == t250) = true := beq_iff_eq.mpr c12
     have c12b1 : (t244 != t250) = false := bne_eq_false_iff_eq.mpr c12
     clear c12
     by_cases c13 : t241 = t247
     ·rw [if_pos c13] at H
      have c13b0 : (t241 == t247) = true := beq_iff_eq.mpr c13
      have c13b1 : (t241 != t247) = false := bne_eq_false_iff_eq.mpr c13
      clear c13
      by_cases c14 : t243 = t249
      ·rw [if_pos c14] at H
       have c14b0 : (t243 == t249) = true := beq_iff_eq.mpr c14
       have c14b1 : (t243 != t249) = false := bne_eq_false_iff_eq.mpr c14
       clear c14
       have H' := Aside0.mk H
       clear H
       go_wp2
       go_meet
       case rel => exact ⟨_, ((t245 != t251)), (by first | rfl | (simp; done) | (simp [*]; done)), H', ⟨by first | omega | exact Nat.le_refl _⟩, ⟨by repeat (first | (with_reducible first | exact HB.out | apply below_alloc | apply pw_below_drewN | apply below_drew1) | exact HB.out)⟩⟩
      ·rw [if_neg c14] at H
       have c14b0 : (t243 == t249) = false := beq_eq_false_iff_ne.mpr c14
       have c14b1 : (t243 != t249) = true := bne_iff_ne.mpr c14
       have H' := Aside0.mk H
       clear H
       go_wp2
       go_meet
       case rel => exact ⟨_, (true), (by first | rfl | (simp; done) | (simp [*]; done)), H', ⟨by first | omega | exact Nat.le_refl _⟩, ⟨by repeat (first | (with_reducible first | exact HB.out | apply below_alloc | apply pw_below_drewN | apply below_drew1) | exact HB.out)⟩⟩
     ·rw [if_neg c13] at H
      have c13b0 : (t241 == t247) = false := beq_eq_false_iff_ne.mpr c13
      have c13b1 : (t241 != t247) = true := bne_iff_ne.mpr c13
      have H' := Aside0.mk H
      clear H
      go_wp2
      go_meet
      case rel => exact ⟨_, (true), (by first | rfl | (simp; done) | (simp [*]; done)), H', ⟨by first | omega | exact Nat.le_refl _⟩, ⟨by repeat (first | (with_reducible first | exact HB.out | apply below_alloc | apply pw_below_drewN | apply below_drew1) | exact HB.out)⟩⟩
    ·rw [if_neg c12] at H
     have c12b0 : (t244 == t250) = false := beq_eq_false_iff_ne.mpr c12
     have c12b1 : (t244 != t250) = true := bne_iff_ne.mpr c12
     have H' := Aside0.mk H
     clear H
     go_wp2
     go_meet
     case rel => exact ⟨_, (true), (by first | rfl | (simp; done) | (simp [*]; done)), H', ⟨by first | omega | exact Nat.le_refl _⟩, ⟨by repeat (first | (with_reducible first | exact HB.out | apply below_alloc | apply pw_below_drewN | apply below_drew1) | exact HB.out)⟩⟩
   ·rw [if_neg c11] at H
    have c11b0 : (t242 == t248) = false := beq_eq_false_iff_ne.mpr c11
    have c11b1 : (t242 != t248) = true := bne_iff_ne.mpr c11
    have H' := Aside0.mk H
    clear H
    go_wp2
    go_meet
    case rel => exact ⟨_, (true), (by first | rfl | (simp; done) | (simp [*]; done)), H', ⟨by first | omega | exact Nat.le_refl _⟩, ⟨by repeat (first | (with_reducible first | exact HB.out | apply below_alloc | apply pw_below_drewN | apply below_drew1) | exact HB.out)⟩⟩
  ·rw [if_neg c10] at H
   have c10b0 : (t240 == t246) = false := beq_eq_false_iff_ne.mpr c10
   have c10b1 : (t240 != t246) = true := bne_iff_ne.mpr c10
   (first | rw [c10b0] | (simp only [i64_w, i32_w]; rw [c10b0]) | skip)
   have H' := Aside0.mk H
   clear H
   go_wp2
   go_meet
   case rel => exact ⟨_, (true), (by first | rfl | (simp; done) | (simp [*]; done)), H', ⟨by first | omega | exact Nat.le_refl _⟩, ⟨by repeat (first | (with_reducible first | exact HB.out | apply below_alloc | apply pw_below_drewN | apply below_drew1) | exact HB.out)⟩⟩
 case rest =>
  clear HC9
  try clear c1
  try clear p2
  try clear c3
  try clear c10
  try clear c10b0
  try clear c10b1
  try clear c11
  try clear c11b0
  try clear c11b1
  try clear c12
  try clear c12b0
  try clear c12b1
  try clear c13
  try clear c13b0
  try clear c13b1
  try clear c14
  try clear c14b0
  try clear c14b1
  obtain ⟨kq, x81_8, rfl, HA, HJ8, HB⟩ := hcut
  cases kq with
  | zero => exact absurd HA.out (by simp [mapsheetslaw01_NumDivides.j0])
  | succ kj8 =>
   have H := HA.out
   clear HA
   simp only [mapsheetslaw01_NumDivides.j0] at H
   by_cases c15 : x81_8 = true
   ·subst c15
    have H1 : (none) = some r := by rw [if_pos rfl] at H; exact H
    clear H
    have H := H1
    clear H1
    exact absurd H (by simp)
   ·replace c15 := Bool.eq_false_iff.mpr c15
    subst c15
    have H1 : (if t247 = 0 then (if a1 > 0 then (if (wrap64 (a0 - (wrap64 (t240 * a1)))) < 0 then (none) else (if (wrap64 (a0 - (wrap64 (t240 * a1)))) ≥ a1 then (none) else (if a1 < 0 then (if (wrap64 (a0 - (wrap64 (t240 * a1)))) > 0 then (none) else (if (wrap64 (a0 - (wrap64 (t240 * a1)))) ≤ a1 then (none) else ((mapsheetslaw01_awake.f kj8).bind fun t252 => (if t252 = true then (if (wrap64 (a0 - (wrap64 (t240 * a1)))) = 0 then (if t242 = t240 then (if t244 = t240 then (some true) else (some (t244 == t242))) else (none)) else (if t242 = (wrap64 (t240 + 1)) then (if t244 = t240 then (some true) else (some (t244 == t242))) else (none))) else (none))))) else ((mapsheetslaw01_awake.f kj8).bind fun t253 => (if t253 = true then (if (wrap64 (a0 - (wrap64 (t240 * a1)))) = 0 then (if t242 = t240 then (if t244 = t240 then (some true) else (some (t244 == t242))) else (none)) else (if t242 = (wrap64 (t240 + 1)) then (if t244 = t240 then (some true) else (some (t244 == t242))) else (none))) else (none)))))) else (if a1 < 0 then (if (wrap64 (a0 - (wrap64 (t240 * a1)))) > 0 then (none) else (if (wrap64 (a0 - (wrap64 (t240 * a1)))) ≤ a1 then (none) else ((mapsheetslaw01_awake.f kj8).bind fun t254 => (if t254 = true then (if (wrap64 (a0 - (wrap64 (t240 * a1)))) = 0 then (if t242 = t240 then (if t244 = t240 then (some true) else (some (t244 == t242))) else (none)) else (if t242 = (wrap64 (t240 + 1)) then (if t244 = t240 then (some true) else (some (t244 == t242))) else (none))) else (none))))) else ((mapsheetslaw01_awake.f kj8).bind fun t255 => (if t255 = true then (if (wrap64 (a0 - (wrap64 (t240 * a1)))) = 0 then (if t242 = t240 then (if t244 = t240 then (some true) else (some (t244 == t242))) else (none)) else (if t242 = (wrap64 (t240 + 1)) then (if t244 = t240 then (some true) else (some (t244 == t242))) else (none))) else (none))))) else ((mapsheetslaw01_awake.f kj8).bind fun t256 => (some t256))) = some r := by rw [if_neg (show ¬ (false = true) by decide)] at H; exact H
    clear H
    have H := H1
    clear H1
    by_cases c16 : t247 = 0
    ·rw [if_pos c16] at H
     have c16b0 : (t247 == 0) = true := beq_iff_eq.mpr c16
     have c16b1 : (t247 != 0) = false := bne_eq_false_iff_eq.mpr c16
     clear c16
     by_cases c17 : a1 > 0
     ·rw [if_pos c17] at H
      have c17b0 : decide (0 < a1) = true := decide_eq_true c17
      clear c17
      by_cases c18 : (wrap64 (a0 - (wrap64 (t240 * a1)))) < 0
      ·rw [if_pos c18] at H
       exact absurd H (by simp)
      ·rw [if_neg c18] at H
       have c18b0 : decide ((wrap64 (a0 - (wrap64 (t240 * a1)))) < 0) = false := decide_eq_false c18
       clear c18
       by_cases c19 : (wrap64 (a0 - (wrap64 (t240 * a1)))) ≥ a1
       ·rw [if_pos c19] at H
        exact absurd H (by simp)
       ·rw [if_neg c19] at H
        have c19b0 : decide (a1 ≤ (wrap64 (a0 - (wrap64 (t240 * a1))))) = false := decide_eq_false c19
        clear c19
        by_cases c20 : a1 < 0
        ·rw [if_pos c20] at H
         have c20b0 : decide (a1 < 0) = true := decide_eq_true c20
         clear c20
         by_cases c21 : (wrap64 (a0 - (wrap64 (t240 * a1)))) > 0
         ·rw [if_pos c21] at H
          exact absurd H (by simp)
         ·rw [if_neg c21] at H
          have c21b0 : decide (0 < (wrap64 (a0 - (wrap64 (t240 * a1))))) = false := decide_eq_false c21
          clear c21
          by_cases c22 : (wrap64 (a0 - (wrap64 (t240 * a1)))) ≤ a1
          ·rw [if_pos c22] at H
           exact absurd H (by simp)
          ·rw [if_neg c22] at H
           have c22b0 : decide ((wrap64 (a0 - (wrap64 (t240 * a1)))) ≤ a1) = false := decide_eq_false c22
           clear c22
           replace H := Option.bind_eq_some_iff.mp H
           obtain ⟨t252, A230, H⟩ := H
           replace H : (if t252 = true then (if (wrap64 (a0 - (wrap64 (t240 * a1)))) = 0 then (if t242 = t240 then (if t244 = t240 then (some true) else (some (t244 == t242))) else (none)) else (if t242 = (wrap64 (t240 + 1)) then (if t244 = t240 then (some true) else (some (t244 == t242))) else (none))) else (none)) = some r := H
           have A23 := Aside0.mk A230
           clear A230
           by_cases c24 : t252 = true
           ·subst c24
            have H1 : (if (wrap64 (a0 - (wrap64 (t240 * a1)))) = 0 then (if t242 = t240 then (if t244 = t240 then (some true) else (some (t244 == t242))) else (none)) else (if t242 = (wrap64 (t240 + 1)) then (if t244 = t240 then (some true) else (some (t244 == t242))) else (none))) = some r := by rw [if_pos rfl] at H; exact H
            clear H
            have H := H1
            clear H1
            by_cases c25 : (wrap64 (a0 - (wrap64 (t240 * a1)))) = 0
            ·rw [if_pos c25] at H
             have c25b0 : ((wrap64 (a0 - (wrap64 (t240 * a1)))) == 0) = true := beq_iff_eq.mpr c25
             have c25b1 : ((wrap64 (a0 - (wrap64 (t240 * a1)))) != 0) = false := bne_eq_false_iff_eq.mpr c25
             clear c25
             by_cases c26 : t242 = t240
             ·rw [if_pos c26] at H
              have c26b0 : (t242 == t240) = true := beq_iff_eq.mpr c26
              have c26b1 : (t242 != t240) = false := bne_eq_false_iff_eq.mpr c26
              clear c26
              by_cases c27 : t244 = t240
              ·rw [if_pos c27] at H
               have c27b0 : (t244 == t240) = true := beq_iff_eq.mpr c27
               have c27b1 : (t244 != t240) = false := bne_eq_false_iff_eq.mpr c27
               clear c27
               obtain rfl := Option.some.inj H
               go_wp2_with (first | ((with_reducible refine gate_callee (f := 17) rfl ?_); refine goesL_ (some 114) rfl rfl Try.func17 (by kernel_rfl) rfl #[] rfl (by (try simp only [List.map_toArray, List.map_cons, List.map_nil]); first | done | rfl | (simp only [List.length_drop, List.length_take]; rfl)) ?_; (with_reducible refine (mapsheetslaw01_awake.calls kj8  true _ A23.out).mono ?_); rintro e w28 ⟨rfl, hb⟩; refine ⟨_, rfl, ?_⟩; have n0_ := Aside0.mk (below_step (by repeat (first | (with_reducible first | exact HB.out | apply below_alloc | apply pw_below_drewN | apply below_drew1) | exact HB.out)) hb); clear HB; have HB := n0_; clear n0_; (try clear hb); (try clear hb2); (try clear hk); (try clear hi)))
               go_ret
               exact ⟨by first | rfl | (simp [errW_none, errW_some] <;> rfl) | (simp [*, errW_none, errW_some] <;> rfl), by repeat (first | (with_reducible first | exact HB.out | apply below_alloc | apply pw_below_drewN | apply below_drew1) | exact HB.out)⟩
              ·rw [if_neg c27] at H
               have c27b0 : (t244 == t240) = false := beq_eq_false_iff_ne.mpr c27
               have c27b1 : (t244 != t240) = true := bne_iff_ne.mpr c27
               obtain rfl := Option.some.inj H
               go_wp2_with (first | ((with_reducible refine gate_callee (f := 17) rfl ?_); refine goesL_ (some 114) rfl rfl Try.func17 (by kernel_rfl) rfl #[] rfl (by (try simp only [List.map_toArray, List.map_cons, List.map_nil]); first | done | rfl | (simp only [List.length_drop, List.length_take]; rfl)) ?_; (with_reducible refine (mapsheetslaw01_awake.calls kj8  true _ A23.out).mono ?_); rintro e w29 ⟨rfl, hb⟩; refine ⟨_, rfl, ?_⟩; have n0_ := Aside0.mk (below_step (by repeat (first | (with_reducible first | exact HB.out | apply below_alloc | apply pw_below_drewN | apply below_drew1) | exact HB.out)) hb); clear HB; have HB := n0_; clear n0_; (try clear hb); (try clear hb2); (try clear hk); (try clear hi)))
               go_ret
               exact ⟨by first | rfl | (simp [errW_none, errW_some] <;> rfl) | (simp [*, errW_none, errW_some] <;> rfl), by repeat (first | (with_reducible first | exact HB.out | apply below_alloc | apply pw_below_drewN | apply below_drew1) | exact HB.out)⟩
             ·rw [if_neg c26] at H
              exact absurd H (by simp)
            ·rw [if_neg c25] at H
             have c25b0 : ((wrap64 (a0 - (wrap64 (t240 * a1)))) == 0) = false := beq_eq_false_iff_ne.mpr c25
             have c25b1 : ((wrap64 (a0 - (wrap64 (t240 * a1)))) != 0) = true := bne_iff_ne.mpr c25
             by_cases c30 : t242 = (wrap64 (t240 + 1))
             ·rw [if_pos c30] at H
              have c30b0 : (t242 == (wrap64 (t240 + 1))) = true := beq_iff_eq.mpr c30
              have c30b1 : (t242 != (wrap64 (t240 + 1))) = false := bne_eq_false_iff_eq.mpr c30
              clear c30
              by_cases c31 : t244 = t240
              ·rw [if_pos c31] at H
               have c31b0 : (t244 == t240) = true := beq_iff_eq.mpr c31
               have c31b1 : (t244 != t240) = false := bne_eq_false_iff_eq.mpr c31
               clear c31
               obtain rfl := Option.some.inj H
               go_wp2_with (first | ((with_reducible refine gate_callee (f := 17) rfl ?_); refine goesL_ (some 114) rfl rfl Try.func17 (by kernel_rfl) rfl #[] rfl (by (try simp only [List.map_toArray, List.map_cons, List.map_nil]); first | done | rfl | (simp only [List.length_drop, List.length_take]; rfl)) ?_; (with_reducible refine (mapsheetslaw01_awake.calls kj8  true _ A23.out).mono ?_); rintro e w32 ⟨rfl, hb⟩; refine ⟨_, rfl, ?_⟩; have n0_ := Aside0.mk (below_step (by repeat (first | (with_reducible first | exact HB.out | apply below_alloc | apply pw_below_drewN | apply below_drew1) | exact HB.out)) hb); clear HB; have HB := n0_; clear n0_; (try clear hb); (try clear hb2); (try clear hk); (try clear hi)))
               go_ret
               exact ⟨by first | rfl | (simp [errW_none, errW_some] <;> rfl) | (simp [*, errW_none, errW_some] <;> rfl), by repeat (first | (with_reducible first | exact HB.out | apply below_alloc | apply pw_below_drewN | apply below_drew1) | exact HB.out)⟩
              ·rw [if_neg c31] at H
               have c31b0 : (t244 == t240) = false := beq_eq_false_iff_ne.mpr c31
               have c31b1 : (t244 != t240) = true := bne_iff_ne.mpr c31
               obtain rfl := Option.some.inj H
               go_wp2_with (first | ((with_reducible refine gate_callee (f := 17) rfl ?_); refine goesL_ (some 114) rfl rfl Try.func17 (by kernel_rfl) rfl #[] rfl (by (try simp only [List.map_toArray, List.map_cons, List.map_nil]); first | done | rfl | (simp only [List.length_drop, List.length_take]; rfl)) ?_; (with_reducible refine (mapsheetslaw01_awake.calls kj8  true _ A23.out).mono ?_); rintro e w33 ⟨rfl, hb⟩; refine ⟨_, rfl, ?_⟩; have n0_ := Aside0.mk (below_step (by repeat (first | (with_reducible first | exact HB.out | apply below_alloc | apply pw_below_drewN | apply below_drew1) | exact HB.out)) hb); clear HB; have HB := n0_; clear n0_; (try clear hb); (try clear hb2); (try clear hk); (try clear hi)))
               go_ret
               exact ⟨by first | rfl | (simp [errW_none, errW_some] <;> rfl) | (simp [*, errW_none, errW_some] <;> rfl), by repeat (first | (with_reducible first | exact HB.out | apply below_alloc | apply pw_below_drewN | apply below_drew1) | exact HB.out)⟩
             ·rw [if_neg c30] at H
              exact absurd H (by simp)
           ·replace c24 := Bool.eq_false_iff.mpr c24
            subst c24
            have H1 : (none) = some r := by rw [if_neg (show ¬ (false = true) by decide)] at H; exact H
            clear H
            have H := H1
            clear H1
            exact absurd H (by simp)
        ·rw [if_neg c20] at H
         have c20b0 : decide (a1 < 0) = false := decide_eq_false c20
         clear c20
         replace H := Option.bind_eq_some_iff.mp H
         obtain ⟨t253, A340, H⟩ := H
         replace H : (if t253 = true then (if (wrap64 (a0 - (wrap64 (t240 * a1)))) = 0 then (if t242 = t240 then (if t244 = t240 then (some true) else (some (t244 == t242))) else (none)) else (if t242 = (wrap64 (t240 + 1)) then (if t244 = t240 then (some true) else (some (t244 == t242))) else (none))) else (none)) = some r := H
         have A34 := Aside0.mk A340
         clear A340
         by_cases c35 : t253 = true
         ·subst c35
          have H1 : (if (wrap64 (a0 - (wrap64 (t240 * a1)))) = 0 then (if t242 = t240 then (if t244 = t240 then (some true) else (some (t244 == t242))) else (none)) else (if t242 = (wrap64 (t240 + 1)) then (if t244 = t240 then (some true) else (some (t244 == t242))) else (none))) = some r := by rw [if_pos rfl] at H; exact H
          clear H
          have H := H1
          clear H1
          by_cases c36 : (wrap64 (a0 - (wrap64 (t240 * a1)))) = 0
          ·rw [if_pos c36] at H
           have c36b0 : ((wrap64 (a0 - (wrap64 (t240 * a1)))) == 0) = true := beq_iff_eq.mpr c36
           have c36b1 : ((wrap64 (a0 - (wrap64 (t240 * a1)))) != 0) = false := bne_eq_false_iff_eq.mpr c36
           clear c36
           by_cases c37 : t242 = t240
           ·rw [if_pos c37] at H
            have c37b0 : (t242 == t240) = true := beq_iff_eq.mpr c37
            have c37b1 : (t242 != t240) = false := bne_eq_false_iff_eq.mpr c37
            clear c37
            by_cases c38 : t244 = t240
            ·rw [if_pos c38] at H
             have c38b0 : (t244 == t240) = true := beq_iff_eq.mpr c38
             have c38b1 : (t244 != t240) = false := bne_eq_false_iff_eq.mpr c38
             clear c38
             obtain rfl := Option.some.inj H
             go_wp2_with (first | ((with_reducible refine gate_callee (f := 17) rfl ?_); refine goesL_ (some 114) rfl rfl Try.func17 (by kernel_rfl) rfl #[] rfl (by (try simp only [List.map_toArray, List.map_cons, List.map_nil]); first | done | rfl | (simp only [List.length_drop, List.length_take]; rfl)) ?_; (with_reducible refine (mapsheetslaw01_awake.calls kj8  true _ A34.out).mono ?_); rintro e w39 ⟨rfl, hb⟩; refine ⟨_, rfl, ?_⟩; have n0_ := Aside0.mk (below_step (by repeat (first | (with_reducible first | exact HB.out | apply below_alloc | apply pw_below_drewN | apply below_drew1) | exact HB.out)) hb); clear HB; have HB := n0_; clear n0_; (try clear hb); (try clear hb2); (try clear hk); (try clear hi)))
             go_ret
             exact ⟨by first | rfl | (simp [errW_none, errW_some] <;> rfl) | (simp [*, errW_none, errW_some] <;> rfl), by repeat (first | (with_reducible first | exact HB.out | apply below_alloc | apply pw_below_drewN | apply below_drew1) | exact HB.out)⟩
            ·rw [if_neg c38] at H
             have c38b0 : (t244 == t240) = false := beq_eq_false_iff_ne.mpr c38
             have c38b1 : (t244 != t240) = true := bne_iff_ne.mpr c38
             obtain rfl := Option.some.inj H
             go_wp2_with (first | ((with_reducible refine gate_callee (f := 17) rfl ?_); refine goesL_ (some 114) rfl rfl Try.func17 (by kernel_rfl) rfl #[] rfl (by (try simp only [List.map_toArray, List.map_cons, List.map_nil]); first | done | rfl | (simp only [List.length_drop, List.length_take]; rfl)) ?_; (with_reducible refine (mapsheetslaw01_awake.calls kj8  true _ A34.out).mono ?_); rintro e w40 ⟨rfl, hb⟩; refine ⟨_, rfl, ?_⟩; have n0_ := Aside0.mk (below_step (by repeat (first | (with_reducible first | exact HB.out | apply below_alloc | apply pw_below_drewN | apply below_drew1) | exact HB.out)) hb); clear HB; have HB := n0_; clear n0_; (try clear hb); (try clear hb2); (try clear hk); (try clear hi)))
             go_ret
             exact ⟨by first | rfl | (simp [errW_none, errW_some] <;> rfl) | (simp [*, errW_none, errW_some] <;> rfl), by repeat (first | (with_reducible first | exact HB.out | apply below_alloc | apply pw_below_drewN | apply below_drew1) | exact HB.out)⟩
           ·rw [if_neg c37] at H
            exact absurd H (by simp)
          ·rw [if_neg c36] at H
           have c36b0 : ((wrap64 (a0 - (wrap64 (t240 * a1)))) == 0) = false := beq_eq_false_iff_ne.mpr c36
           have c36b1 : ((wrap64 (a0 - (wrap64 (t240 * a1)))) != 0) = true := bne_iff_ne.mpr c36
           by_cases c41 : t242 = (wrap64 (t240 + 1))
           ·rw [if_pos c41] at H
            have c41b0 : (t242 == (wrap64 (t240 + 1))) = true := beq_iff_eq.mpr c41
            have c41b1 : (t242 != (wrap64 (t240 + 1))) = false := bne_eq_false_iff_eq.mpr c41
            clear c41
            by_cases c42 : t244 = t240
            ·rw [if_pos c42] at H
             have c42b0 : (t244 == t240) = true := beq_iff_eq.mpr c42
             have c42b1 : (t244 != t240) = false := bne_eq_false_iff_eq.mpr c42
             clear c42
             obtain rfl := Option.some.inj H
             go_wp2_with (first | ((with_reducible refine gate_callee (f := 17) rfl ?_); refine goesL_ (some 114) rfl rfl Try.func17 (by kernel_rfl) rfl #[] rfl (by (try simp only [List.map_toArray, List.map_cons, List.map_nil]); first | done | rfl | (simp only [List.length_drop, List.length_take]; rfl)) ?_; (with_reducible refine (mapsheetslaw01_awake.calls kj8  true _ A34.out).mono ?_); rintro e w43 ⟨rfl, hb⟩; refine ⟨_, rfl, ?_⟩; have n0_ := Aside0.mk (below_step (by repeat (first | (with_reducible first | exact HB.out | apply below_alloc | apply pw_below_drewN | apply below_drew1) | exact HB.out)) hb); clear HB; have HB := n0_; clear n0_; (try clear hb); (try clear hb2); (try clear hk); (try clear hi)))
             go_ret
             exact ⟨by first | rfl | (simp [errW_none, errW_some] <;> rfl) | (simp [*, errW_none, errW_some] <;> rfl), by repeat (first | (with_reducible first | exact HB.out | apply below_alloc | apply pw_below_drewN | apply below_drew1) | exact HB.out)⟩
            ·rw [if_neg c42] at H
             have c42b0 : (t244 == t240) = false := beq_eq_false_iff_ne.mpr c42
             have c42b1 : (t244 != t240) = true := bne_iff_ne.mpr c42
             obtain rfl := Option.some.inj H
             go_wp2_with (first | ((with_reducible refine gate_callee (f := 17) rfl ?_); refine goesL_ (some 114) rfl rfl Try.func17 (by kernel_rfl) rfl #[] rfl (by (try simp only [List.map_toArray, List.map_cons, List.map_nil]); first | done | rfl | (simp only [List.length_drop, List.length_take]; rfl)) ?_; (with_reducible refine (mapsheetslaw01_awake.calls kj8  true _ A34.out).mono ?_); rintro e w44 ⟨rfl, hb⟩; refine ⟨_, rfl, ?_⟩; have n0_ := Aside0.mk (below_step (by repeat (first | (with_reducible first | exact HB.out | apply below_alloc | apply pw_below_drewN | apply below_drew1) | exact HB.out)) hb); clear HB; have HB := n0_; clear n0_; (try clear hb); (try clear hb2); (try clear hk); (try clear hi)))
             go_ret
             exact ⟨by first | rfl | (simp [errW_none, errW_some] <;> rfl) | (simp [*, errW_none, errW_some] <;> rfl), by repeat (first | (with_reducible first | exact HB.out | apply below_alloc | apply pw_below_drewN | apply below_drew1) | exact HB.out)⟩
           ·rw [if_neg c41] at H
            exact absurd H (by simp)
         ·replace c35 := Bool.eq_false_iff.mpr c35
          subst c35
          have H1 : (none) = some r := by rw [if_neg (show ¬ (false = true) by decide)] at H; exact H
          clear H
          have H := H1
          clear H1
          exact absurd H (by simp)
     ·rw [if_neg c17] at H
      have c17b0 : decide (0 < a1) = false := decide_eq_false c17
      clear c17
      by_cases c45 : a1 < 0
      ·rw [if_pos c45] at H
       have c45b0 : decide (a1 < 0) = true := decide_eq_true c45
       clear c45
       by_cases c46 : (wrap64 (a0 - (wrap64 (t240 * a1)))) > 0
       ·rw [if_pos c46] at H
        exact absurd H (by simp)
       ·rw [if_neg c46] at H
        have c46b0 : decide (0 < (wrap64 (a0 - (wrap64 (t240 * a1))))) = false := decide_eq_false c46
        clear c46
        by_cases c47 : (wrap64 (a0 - (wrap64 (t240 * a1)))) ≤ a1
        ·rw [if_pos c47] at H
         exact absurd H (by simp)
        ·rw [if_neg c47] at H
         have c47b0 : decide ((wrap64 (a0 - (wrap64 (t240 * a1)))) ≤ a1) = false := decide_eq_false c47
         clear c47
         replace H := Option.bind_eq_some_iff.mp H
         obtain ⟨t254, A480, H⟩ := H
         replace H : (if t254 = true then (if (wrap64 (a0 - (wrap64 (t240 * a1)))) = 0 then (if t242 = t240 then (if t244 = t240 then (some true) else (some (t244 == t242))) else (none)) else (if t242 = (wrap64 (t240 + 1)) then (if t244 = t240 then (some true) else (some (t244 == t242))) else (none))) else (none)) = some r := H
         have A48 := Aside0.mk A480
         clear A480
         by_cases c49 : t254 = true
         ·subst c49
          have H1 : (if (wrap64 (a0 - (wrap64 (t240 * a1)))) = 0 then (if t242 = t240 then (if t244 = t240 then (some true) else (some (t244 == t242))) else (none)) else (if t242 = (wrap64 (t240 + 1)) then (if t244 = t240 then (some true) else (some (t244 == t242))) else (none))) = some r := by rw [if_pos rfl] at H; exact H
          clear H
          have H := H1
          clear H1
          by_cases c50 : (wrap64 (a0 - (wrap64 (t240 * a1)))) = 0
          ·rw [if_pos c50] at H
           have c50b0 : ((wrap64 (a0 - (wrap64 (t240 * a1)))) == 0) = true := beq_iff_eq.mpr c50
           have c50b1 : ((wrap64 (a0 - (wrap64 (t240 * a1)))) != 0) = false := bne_eq_false_iff_eq.mpr c50
           clear c50
           by_cases c51 : t242 = t240
           ·rw [if_pos c51] at H
            have c51b0 : (t242 == t240) = true := beq_iff_eq.mpr c51
            have c51b1 : (t242 != t240) = false := bne_eq_false_iff_eq.mpr c51
            clear c51
            by_cases c52 : t244 = t240
            ·rw [if_pos c52] at H
             have c52b0 : (t244 == t240) = true := beq_iff_eq.mpr c52
             have c52b1 : (t244 != t240) = false := bne_eq_false_iff_eq.mpr c52
             clear c52
             obtain rfl := Option.some.inj H
             go_wp2_with (first | ((with_reducible refine gate_callee (f := 17) rfl ?_); refine goesL_ (some 114) rfl rfl Try.func17 (by kernel_rfl) rfl #[] rfl (by (try simp only [List.map_toArray, List.map_cons, List.map_nil]); first | done | rfl | (simp only [List.length_drop, List.length_take]; rfl)) ?_; (with_reducible refine (mapsheetslaw01_awake.calls kj8  true _ A48.out).mono ?_); rintro e w53 ⟨rfl, hb⟩; refine ⟨_, rfl, ?_⟩; have n0_ := Aside0.mk (below_step (by repeat (first | (with_reducible first | exact HB.out | apply below_alloc | apply pw_below_drewN | apply below_drew1) | exact HB.out)) hb); clear HB; have HB := n0_; clear n0_; (try clear hb); (try clear hb2); (try clear hk); (try clear hi)))
             go_ret
             exact ⟨by first | rfl | (simp [errW_none, errW_some] <;> rfl) | (simp [*, errW_none, errW_some] <;> rfl), by repeat (first | (with_reducible first | exact HB.out | apply below_alloc | apply pw_below_drewN | apply below_drew1) | exact HB.out)⟩
            ·rw [if_neg c52] at H
             have c52b0 : (t244 == t240) = false := beq_eq_false_iff_ne.mpr c52
             have c52b1 : (t244 != t240) = true := bne_iff_ne.mpr c52
             obtain rfl := Option.some.inj H
             go_wp2_with (first | ((with_reducible refine gate_callee (f := 17) rfl ?_); refine goesL_ (some 114) rfl rfl Try.func17 (by kernel_rfl) rfl #[] rfl (by (try simp only [List.map_toArray, List.map_cons, List.map_nil]); first | done | rfl | (simp only [List.length_drop, List.length_take]; rfl)) ?_; (with_reducible refine (mapsheetslaw01_awake.calls kj8  true _ A48.out).mono ?_); rintro e w54 ⟨rfl, hb⟩; refine ⟨_, rfl, ?_⟩; have n0_ := Aside0.mk (below_step (by repeat (first | (with_reducible first | exact HB.out | apply below_alloc | apply pw_below_drewN | apply below_drew1) | exact HB.out)) hb); clear HB; have HB := n0_; clear n0_; (try clear hb); (try clear hb2); (try clear hk); (try clear hi)))
             go_ret
             exact ⟨by first | rfl | (simp [errW_none, errW_some] <;> rfl) | (simp [*, errW_none, errW_some] <;> rfl), by repeat (first | (with_reducible first | exact HB.out | apply below_alloc | apply pw_below_drewN | apply below_drew1) | exact HB.out)⟩
           ·rw [if_neg c51] at H
            exact absurd H (by simp)
          ·rw [if_neg c50] at H
           have c50b0 : ((wrap64 (a0 - (wrap64 (t240 * a1)))) == 0) = false := beq_eq_false_iff_ne.mpr c50
           have c50b1 : ((wrap64 (a0 - (wrap64 (t240 * a1)))) != 0) = true := bne_iff_ne.mpr c50
           by_cases c55 : t242 = (wrap64 (t240 + 1))
           ·rw [if_pos c55] at H
            have c55b0 : (t242 == (wrap64 (t240 + 1))) = true := beq_iff_eq.mpr c55
            have c55b1 : (t242 != (wrap64 (t240 + 1))) = false := bne_eq_false_iff_eq.mpr c55
            clear c55
            by_cases c56 : t244 = t240
            ·rw [if_pos c56] at H
             have c56b0 : (t244 == t240) = true := beq_iff_eq.mpr c56
             have c56b1 : (t244 != t240) = false := bne_eq_false_iff_eq.mpr c56
             clear c56
             obtain rfl := Option.some.inj H
             go_wp2_with (first | ((with_reducible refine gate_callee (f := 17) rfl ?_); refine goesL_ (some 114) rfl rfl Try.func17 (by kernel_rfl) rfl #[] rfl (by (try simp only [List.map_toArray, List.map_cons, List.map_nil]); first | done | rfl | (simp only [List.length_drop, List.length_take]; rfl)) ?_; (with_reducible refine (mapsheetslaw01_awake.calls kj8  true _ A48.out).mono ?_); rintro e w57 ⟨rfl, hb⟩; refine ⟨_, rfl, ?_⟩; have n0_ := Aside0.mk (below_step (by repeat (first | (with_reducible first | exact HB.out | apply below_alloc | apply pw_below_drewN | apply below_drew1) | exact HB.out)) hb); clear HB; have HB := n0_; clear n0_; (try clear hb); (try clear hb2); (try clear hk); (try clear hi)))
             go_ret
             exact ⟨by first | rfl | (simp [errW_none, errW_some] <;> rfl) | (simp [*, errW_none, errW_some] <;> rfl), by repeat (first | (with_reducible first | exact HB.out | apply below_alloc | apply pw_below_drewN | apply below_drew1) | exact HB.out)⟩
            ·rw [if_neg c56] at H
             have c56b0 : (t244 == t240) = false := beq_eq_false_iff_ne.mpr c56
             have c56b1 : (t244 != t240) = true := bne_iff_ne.mpr c56
             obtain rfl := Option.some.inj H
             go_wp2_with (first | ((with_reducible refine gate_callee (f := 17) rfl ?_); refine goesL_ (some 114) rfl rfl Try.func17 (by kernel_rfl) rfl #[] rfl (by (try simp only [List.map_toArray, List.map_cons, List.map_nil]); first | done | rfl | (simp only [List.length_drop, List.length_take]; rfl)) ?_; (with_reducible refine (mapsheetslaw01_awake.calls kj8  true _ A48.out).mono ?_); rintro e w58 ⟨rfl, hb⟩; refine ⟨_, rfl, ?_⟩; have n0_ := Aside0.mk (below_step (by repeat (first | (with_reducible first | exact HB.out | apply below_alloc | apply pw_below_drewN | apply below_drew1) | exact HB.out)) hb); clear HB; have HB := n0_; clear n0_; (try clear hb); (try clear hb2); (try clear hk); (try clear hi)))
             go_ret
             exact ⟨by first | rfl | (simp [errW_none, errW_some] <;> rfl) | (simp [*, errW_none, errW_some] <;> rfl), by repeat (first | (with_reducible first | exact HB.out | apply below_alloc | apply pw_below_drewN | apply below_drew1) | exact HB.out)⟩
           ·rw [if_neg c55] at H
            exact absurd H (by simp)
         ·replace c49 := Bool.eq_false_iff.mpr c49
          subst c49
          have H1 : (none) = some r := by rw [if_neg (show ¬ (false = true) by decide)] at H; exact H
          clear H
          have H := H1
          clear H1
          exact absurd H (by simp)
      ·rw [if_neg c45] at H
       have c45b0 : decide (a1 < 0) = false := decide_eq_false c45
       clear c45
       replace H := Option.bind_eq_some_iff.mp H
       obtain ⟨t255, A590, H⟩ := H
       replace H : (if t255 = true then (if (wrap64 (a0 - (wrap64 (t240 * a1)))) = 0 then (if t242 = t240 then (if t244 = t240 then (some true) else (some (t244 == t242))) else (none)) else (if t242 = (wrap64 (t240 + 1)) then (if t244 = t240 then (some true) else (some (t244 == t242))) else (none))) else (none)) = some r := H
       have A59 := Aside0.mk A590
       clear A590
       by_cases c60 : t255 = true
       ·subst c60
        have H1 : (if (wrap64 (a0 - (wrap64 (t240 * a1)))) = 0 then (if t242 = t240 then (if t244 = t240 then (some true) else (some (t244 == t242))) else (none)) else (if t242 = (wrap64 (t240 + 1)) then (if t244 = t240 then (some true) else (some (t244 == t242))) else (none))) = some r := by rw [if_pos rfl] at H; exact H
        clear H
        have H := H1
        clear H1
        by_cases c61 : (wrap64 (a0 - (wrap64 (t240 * a1)))) = 0
        ·rw [if_pos c61] at H
         have c61b0 : ((wrap64 (a0 - (wrap64 (t240 * a1)))) == 0) = true := beq_iff_eq.mpr c61
         have c61b1 : ((wrap64 (a0 - (wrap64 (t240 * a1)))) != 0) = false := bne_eq_false_iff_eq.mpr c61
         clear c61
         by_cases c62 : t242 = t240
         ·rw [if_pos c62] at H
          have c62b0 : (t242 == t240) = true := beq_iff_eq.mpr c62
          have c62b1 : (t242 != t240) = false := bne_eq_false_iff_eq.mpr c62
          clear c62
          by_cases c63 : t244 = t240
          ·rw [if_pos c63] at H
           have c63b0 : (t244 == t240) = true := beq_iff_eq.mpr c63
           have c63b1 : (t244 != t240) = false := bne_eq_false_iff_eq.mpr c63
           clear c63
           obtain rfl := Option.some.inj H
           go_wp2_with (first | ((with_reducible refine gate_callee (f := 17) rfl ?_); refine goesL_ (some 114) rfl rfl Try.func17 (by kernel_rfl) rfl #[] rfl (by (try simp only [List.map_toArray, List.map_cons, List.map_nil]); first | done | rfl | (simp only [List.length_drop, List.length_take]; rfl)) ?_; (with_reducible refine (mapsheetslaw01_awake.calls kj8  true _ A59.out).mono ?_); rintro e w64 ⟨rfl, hb⟩; refine ⟨_, rfl, ?_⟩; have n0_ := Aside0.mk (below_step (by repeat (first | (with_reducible first | exact HB.out | apply below_alloc | apply pw_below_drewN | apply below_drew1) | exact HB.out)) hb); clear HB; have HB := n0_; clear n0_; (try clear hb); (try clear hb2); (try clear hk); (try clear hi)))
           go_ret
           exact ⟨by first | rfl | (simp [errW_none, errW_some] <;> rfl) | (simp [*, errW_none, errW_some] <;> rfl), by repeat (first | (with_reducible first | exact HB.out | apply below_alloc | apply pw_below_drewN | apply below_drew1) | exact HB.out)⟩
          ·rw [if_neg c63] at H
           have c63b0 : (t244 == t240) = false := beq_eq_false_iff_ne.mpr c63
           have c63b1 : (t244 != t240) = true := bne_iff_ne.mpr c63
           obtain rfl := Option.some.inj H
           go_wp2_with (first | ((with_reducible refine gate_callee (f := 17) rfl ?_); refine goesL_ (some 114) rfl rfl Try.func17 (by kernel_rfl) rfl #[] rfl (by (try simp only [List.map_toArray, List.map_cons, List.map_nil]); first | done | rfl | (simp only [List.length_drop, List.length_take]; rfl)) ?_; (with_reducible refine (mapsheetslaw01_awake.calls kj8  true _ A59.out).mono ?_); rintro e w65 ⟨rfl, hb⟩; refine ⟨_, rfl, ?_⟩; have n0_ := Aside0.mk (below_step (by repeat (first | (with_reducible first | exact HB.out | apply below_alloc | apply pw_below_drewN | apply below_drew1) | exact HB.out)) hb); clear HB; have HB := n0_; clear n0_; (try clear hb); (try clear hb2); (try clear hk); (try clear hi)))
           go_ret
           exact ⟨by first | rfl | (simp [errW_none, errW_some] <;> rfl) | (simp [*, errW_none, errW_some] <;> rfl), by repeat (first | (with_reducible first | exact HB.out | apply below_alloc | apply pw_below_drewN | apply below_drew1) | exact HB.out)⟩
         ·rw [if_neg c62] at H
          exact absurd H (by simp)
        ·rw [if_neg c61] at H
         have c61b0 : ((wrap64 (a0 - (wrap64 (t240 * a1)))) == 0) = false := beq_eq_false_iff_ne.mpr c61
         have c61b1 : ((wrap64 (a0 - (wrap64 (t240 * a1)))) != 0) = true := bne_iff_ne.mpr c61
         by_cases c66 : t242 = (wrap64 (t240 + 1))
         ·rw [if_pos c66] at H
          have c66b0 : (t242 == (wrap64 (t240 + 1))) = true := beq_iff_eq.mpr c66
          have c66b1 : (t242 != (wrap64 (t240 + 1))) = false := bne_eq_false_iff_eq.mpr c66
          clear c66
          by_cases c67 : t244 = t240
          ·rw [if_pos c67] at H
           have c67b0 : (t244 == t240) = true := beq_iff_eq.mpr c67
           have c67b1 : (t244 != t240) = false := bne_eq_false_iff_eq.mpr c67
           clear c67
           obtain rfl := Option.some.inj H
           go_wp2_with (first | ((with_reducible refine gate_callee (f := 17) rfl ?_); refine goesL_ (some 114) rfl rfl Try.func17 (by kernel_rfl) rfl #[] rfl (by (try simp only [List.map_toArray, List.map_cons, List.map_nil]); first | done | rfl | (simp only [List.length_drop, List.length_take]; rfl)) ?_; (with_reducible refine (mapsheetslaw01_awake.calls kj8  true _ A59.out).mono ?_); rintro e w68 ⟨rfl, hb⟩; refine ⟨_, rfl, ?_⟩; have n0_ := Aside0.mk (below_step (by repeat (first | (with_reducible first | exact HB.out | apply below_alloc | apply pw_below_drewN | apply below_drew1) | exact HB.out)) hb); clear HB; have HB := n0_; clear n0_; (try clear hb); (try clear hb2); (try clear hk); (try clear hi)))
           go_ret
           exact ⟨by first | rfl | (simp [errW_none, errW_some] <;> rfl) | (simp [*, errW_none, errW_some] <;> rfl), by repeat (first | (with_reducible first | exact HB.out | apply below_alloc | apply pw_below_drewN | apply below_drew1) | exact HB.out)⟩
          ·rw [if_neg c67] at H
           have c67b0 : (t244 == t240) = false := beq_eq_false_iff_ne.mpr c67
           have c67b1 : (t244 != t240) = true := bne_iff_ne.mpr c67
           obtain rfl := Option.some.inj H
           go_wp2_with (first | ((with_reducible refine gate_callee (f := 17) rfl ?_); refine goesL_ (some 114) rfl rfl Try.func17 (by kernel_rfl) rfl #[] rfl (by (try simp only [List.map_toArray, List.map_cons, List.map_nil]); first | done | rfl | (simp only [List.length_drop, List.length_take]; rfl)) ?_; (with_reducible refine (mapsheetslaw01_awake.calls kj8  true _ A59.out).mono ?_); rintro e w69 ⟨rfl, hb⟩; refine ⟨_, rfl, ?_⟩; have n0_ := Aside0.mk (below_step (by repeat (first | (with_reducible first | exact HB.out | apply below_alloc | apply pw_below_drewN | apply below_drew1) | exact HB.out)) hb); clear HB; have HB := n0_; clear n0_; (try clear hb); (try clear hb2); (try clear hk); (try clear hi)))
           go_ret
           exact ⟨by first | rfl | (simp [errW_none, errW_some] <;> rfl) | (simp [*, errW_none, errW_some] <;> rfl), by repeat (first | (with_reducible first | exact HB.out | apply below_alloc | apply pw_below_drewN | apply below_drew1) | exact HB.out)⟩
         ·rw [if_neg c66] at H
          exact absurd H (by simp)
       ·replace c60 := Bool.eq_false_iff.mpr c60
        subst c60
        have H1 : (none) = some r := by rw [if_neg (show ¬ (false = true) by decide)] at H; exact H
        clear H
        have H := H1
        clear H1
        exact absurd H (by simp)
    ·rw [if_neg c16] at H
     have c16b0 : (t247 == 0) = false := beq_eq_false_iff_ne.mpr c16
     have c16b1 : (t247 != 0) = true := bne_iff_ne.mpr c16
     replace H := Option.bind_eq_some_iff.mp H
     obtain ⟨t256, A700, H⟩ := H
     replace H : (some t256) = some r := H
     have A70 := Aside0.mk A700
     clear A700
     obtain rfl := Option.some.inj H
     go_wp2_with (first | ((with_reducible refine gate_callee (f := 17) rfl ?_); refine goesL_ (some 84) rfl rfl Try.func17 (by kernel_rfl) rfl #[] rfl (by (try simp only [List.map_toArray, List.map_cons, List.map_nil]); first | done | rfl | (simp only [List.length_drop, List.length_take]; rfl)) ?_; (with_reducible refine (mapsheetslaw01_awake.calls kj8  t256 _ A70.out).mono ?_); rintro e w71 ⟨rfl, hb⟩; refine ⟨_, rfl, ?_⟩; have n0_ := Aside0.mk (below_step (by repeat (first | (with_reducible first | exact HB.out | apply below_alloc | apply pw_below_drewN | apply below_drew1) | exact HB.out)) hb); clear HB; have HB := n0_; clear n0_; (try clear hb); (try clear hb2); (try clear hk); (try clear hi)))
     go_ret
     exact ⟨by first | rfl | (simp [errW_none, errW_some] <;> rfl) | (simp [*, errW_none, errW_some] <;> rfl), by repeat (first | (with_reducible first | exact HB.out | apply below_alloc | apply pw_below_drewN | apply below_drew1) | exact HB.out)⟩

/-- THE ONE PURE STATEMENT of mapsheetslaw01_NumDivides: yours. -/
def mapsheetslaw01_NumDivides.Pure : Prop := ∀ (a0 : Int) (a1 : Int), (Lit.int .i64 a0).wf = true → (Lit.int .i64 a1).wf = true → ∃ k, mapsheetslaw01_NumDivides.f k a0 a1 = some true

end Go.Proofs.Ytngiipodkbfokaa.PAll
