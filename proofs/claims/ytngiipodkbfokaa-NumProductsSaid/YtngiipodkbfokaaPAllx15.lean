-- Written by this session's own program wip/ext.py over the kit's print; not the kit's own print.
import Derived.Test.YtngiipodkbfokaaPAllx0
import Derived.Test.YtngiipodkbfokaaPAllx2
import Derived.Test.YtngiipodkbfokaaPAllx3
import Derived.Test.YtngiipodkbfokaaPAllx7
import Derived.Test.YtngiipodkbfokaaPAllx11
import Derived.Test.YtngiipodkbfokaaPAllx14
namespace Go.Proofs.Ytngiipodkbfokaa.PAll
open Go.RowKit Go.Proofs.YtngiipodkbfokaaW.PrintWords Go.Proofs.YtngiipodkbfokaaW.PrintLast Go.Proofs.YtngiipodkbfokaaW.PrintMore
attribute [local go_sem] max2_int min2_int max_two min_two max_three min_three max_four min_four   -- for this text's walks alone
set_option linter.unusedVariables false
set_option linter.unusedSimpArgs false

/-! ### mapsheetsref01_MulDiv: function 21 -/
def mapsheetsref01_MulDiv.f (k : Nat) (a0 : Int) (a1 : Int) (a2 : Int) : Option (Int × Int) := if a2 = 0 then (some (0, 21)) else ((mapsheetsref01_size.f a0).bind fun t266 => ((mapsheetsref01_size.f a1).bind fun t267 => ((mapsheetsref01_size.f a2).bind fun t268 => ((mapsheetsref01_product.f k t266 t267 t268).bind fun bt269 => (if bt269.2.2 = true then (if (((decide (a0 < 0)) != (decide (a1 < 0))) != (decide (a2 < 0))) = true then (if bt269.2.1 > 0 then ((mapsheetsref01_signed.f k (decide ((IntKind.u64.wrap (bt269.1 + 1)) > 0)) (IntKind.u64.wrap (bt269.1 + 1))).bind fun bt272 => (some (bt272.1, bt272.2))) else ((mapsheetsref01_signed.f k (decide (bt269.1 > 0)) bt269.1).bind fun bt274 => (some (bt274.1, bt274.2)))) else ((mapsheetsref01_signed.f k false bt269.1).bind fun bt276 => (some (bt276.1, bt276.2)))) else (some (0, 15)))))))
theorem mapsheetsref01_MulDiv.mono : ∀ a0 a1 a2 k, LeO (mapsheetsref01_MulDiv.f k a0 a1 a2) (mapsheetsref01_MulDiv.f (k + 1) a0 a1 a2) := by
  intro a0 a1 a2 k
  unfold mapsheetsref01_MulDiv.f
  repeat' first
      | (with_reducible exact mapsheetsref01_product.mono _ _ _ _)
      | (with_reducible exact mapsheetsref01_signed.mono _ _ _)
      | (with_reducible exact LeO.refl _)
      | (with_reducible exact LeO.none _)
      | (with_reducible refine LeO.ite ?_ ?_)
      | (with_reducible refine LeO.bind ?_ (fun _ => ?_))
      | exact mapsheetsref01_product.mono _ _ _ _
      | exact mapsheetsref01_signed.mono _ _ _
      | exact LeO.none _
      | refine LeO.ite ?_ ?_
      | refine LeO.bind ?_ (fun _ => ?_)
set_option maxHeartbeats 8000000 in
set_option maxRecDepth 100000 in
theorem mapsheetsref01_MulDiv.calls (k : Nat) (a0 : Int) (a1 : Int) (a2 : Int) (r1 : Int) (r2 : Int) (w : World) (h : mapsheetsref01_MulDiv.f k a0 a1 a2 = some (r1, r2)) :
    Calls Try.prog 21 #[.int .i64 a0, .int .i64 a1, .int .i64 a2] w fun e w' => e = .returned (.tuple #[.int .i64 r1, .int .i64 r2]) ∧ Drawn0 w w' := by
 have H : (if a2 = 0 then (some (0, 21)) else ((mapsheetsref01_size.f a0).bind fun t266 => ((mapsheetsref01_size.f a1).bind fun t267 => ((mapsheetsref01_size.f a2).bind fun t268 => ((mapsheetsref01_product.f k t266 t267 t268).bind fun bt269 => (if bt269.2.2 = true then (if (((decide (a0 < 0)) != (decide (a1 < 0))) != (decide (a2 < 0))) = true then (if bt269.2.1 > 0 then ((mapsheetsref01_signed.f k (decide ((IntKind.u64.wrap (bt269.1 + 1)) > 0)) (IntKind.u64.wrap (bt269.1 + 1))).bind fun bt272 => (some (bt272.1, bt272.2))) else ((mapsheetsref01_signed.f k (decide (bt269.1 > 0)) bt269.1).bind fun bt274 => (some (bt274.1, bt274.2)))) else ((mapsheetsref01_signed.f k false bt269.1).bind fun bt276 => (some (bt276.1, bt276.2)))) else (some (0, 15)))))))) = some (r1, r2) := h
 clear h
 by_cases c4 : a2 = 0
 ·rw [if_pos c4] at H
  have c4b0 : (a2 == 0) = true := beq_iff_eq.mpr c4
  have c4b1 : (a2 != 0) = false := bne_eq_false_iff_eq.mpr c4
  clear c4
  simp only [Option.some.injEq, Prod.mk.injEq] at H
  obtain ⟨rfl, rfl⟩ := H
  go_enter Try.func21, Try.ntmps21
  go_wp2
  go_ret2
  exact ⟨by first | rfl | (simp; done) | (simp [*]; done), by repeat (first | exact Drawn0.refl _ | apply Drawn0.step)⟩
 ·rw [if_neg c4] at H
  have c4b0 : (a2 == 0) = false := beq_eq_false_iff_ne.mpr c4
  have c4b1 : (a2 != 0) = true := bne_iff_ne.mpr c4
  replace H := Option.bind_eq_some_iff.mp H
  obtain ⟨t266, A50, H⟩ := H
  replace H : ((mapsheetsref01_size.f a1).bind fun t267 => ((mapsheetsref01_size.f a2).bind fun t268 => ((mapsheetsref01_product.f k t266 t267 t268).bind fun bt269 => (if bt269.2.2 = true then (if (((decide (a0 < 0)) != (decide (a1 < 0))) != (decide (a2 < 0))) = true then (if bt269.2.1 > 0 then ((mapsheetsref01_signed.f k (decide ((IntKind.u64.wrap (bt269.1 + 1)) > 0)) (IntKind.u64.wrap (bt269.1 + 1))).bind fun bt272 => (some (bt272.1, bt272.2))) else ((mapsheetsref01_signed.f k (decide (bt269.1 > 0)) bt269.1).bind fun bt274 => (some (bt274.1, bt274.2)))) else ((mapsheetsref01_signed.f k false bt269.1).bind fun bt276 => (some (bt276.1, bt276.2)))) else (some (0, 15)))))) = some (r1, r2) := H
  have A5 := Aside0.mk A50
  clear A50
  replace H := Option.bind_eq_some_iff.mp H
  obtain ⟨t267, A60, H⟩ := H
  replace H : ((mapsheetsref01_size.f a2).bind fun t268 => ((mapsheetsref01_product.f k t266 t267 t268).bind fun bt269 => (if bt269.2.2 = true then (if (((decide (a0 < 0)) != (decide (a1 < 0))) != (decide (a2 < 0))) = true then (if bt269.2.1 > 0 then ((mapsheetsref01_signed.f k (decide ((IntKind.u64.wrap (bt269.1 + 1)) > 0)) (IntKind.u64.wrap (bt269.1 + 1))).bind fun bt272 => (some (bt272.1, bt272.2))) else ((mapsheetsref01_signed.f k (decide (bt269.1 > 0)) bt269.1).bind fun bt274 => (some (bt274.1, bt274.2)))) else ((mapsheetsref01_signed.f k false bt269.1).bind fun bt276 => (some (bt276.1, bt276.2)))) else (some (0, 15))))) = some (r1, r2) := H
  have A6 := Aside0.mk A60
  clear A60
  replace H := Option.bind_eq_some_iff.mp H
  obtain ⟨t268, A70, H⟩ := H
  replace H : ((mapsheetsref01_product.f k t266 t267 t268).bind fun bt269 => (if bt269.2.2 = true then (if (((decide (a0 < 0)) != (decide (a1 < 0))) != (decide (a2 < 0))) = true then (if bt269.2.1 > 0 then ((mapsheetsref01_signed.f k (decide ((IntKind.u64.wrap (bt269.1 + 1)) > 0)) (IntKind.u64.wrap (bt269.1 + 1))).bind fun bt272 => (some (bt272.1, bt272.2))) else ((mapsheetsref01_signed.f k (decide (bt269.1 > 0)) bt269.1).bind fun bt274 => (some (bt274.1, bt274.2)))) else ((mapsheetsref01_signed.f k false bt269.1).bind fun bt276 => (some (bt276.1, bt276.2)))) else (some (0, 15)))) = some (r1, r2) := H
  have A7 := Aside0.mk A70
  clear A70
  replace H := Option.bind_eq_some_iff.mp H
  obtain ⟨⟨t269, t270, t271⟩, A80, H⟩ := H
  replace H : (if t271 = true then (if (((decide (a0 < 0)) != (decide (a1 < 0))) != (decide (a2 < 0))) = true then (if t270 > 0 then ((mapsheetsref01_signed.f k (decide ((IntKind.u64.wrap (t269 + 1)) > 0)) (IntKind.u64.wrap (t269 + 1))).bind fun bt272 => (some (bt272.1, bt272.2))) else ((mapsheetsref01_signed.f k (decide (t269 > 0)) t269).bind fun bt274 => (some (bt274.1, bt274.2)))) else ((mapsheetsref01_signed.f k false t269).bind fun bt276 => (some (bt276.1, bt276.2)))) else (some (0, 15))) = some (r1, r2) := H
  have A8 := Aside0.mk A80
  clear A80
  by_cases c9 : t271 = true
  ·subst c9
   have H1 : (if (((decide (a0 < 0)) != (decide (a1 < 0))) != (decide (a2 < 0))) = true then (if t270 > 0 then ((mapsheetsref01_signed.f k (decide ((IntKind.u64.wrap (t269 + 1)) > 0)) (IntKind.u64.wrap (t269 + 1))).bind fun bt272 => (some (bt272.1, bt272.2))) else ((mapsheetsref01_signed.f k (decide (t269 > 0)) t269).bind fun bt274 => (some (bt274.1, bt274.2)))) else ((mapsheetsref01_signed.f k false t269).bind fun bt276 => (some (bt276.1, bt276.2)))) = some (r1, r2) := by rw [if_pos rfl] at H; exact H
   clear H
   have H := H1
   clear H1
   by_cases c10 : (((decide (a0 < 0)) != (decide (a1 < 0))) != (decide (a2 < 0))) = true
   ·rw [if_pos c10] at H
    have c10b0 : (((decide (a0 < 0)) != (decide (a1 < 0))) != (decide (a2 < 0))) = true := c10
    (try (have c10b1 : decide (((decide (a0 < 0)) != (decide (a1 < 0))) = (decide (a2 < 0))) = false := by simpa using c10))
    (try (have c10b2 : (((decide (a0 < 0)) != (decide (a1 < 0))) == (decide (a2 < 0))) = false := by simpa using c10))
    (try (have c10b3 : ¬ (((decide (a0 < 0)) != (decide (a1 < 0))) = (decide (a2 < 0))) := by simpa using c10))
    (try (have c10b4 : (((decide (a0 < 0)) == (decide (a1 < 0))) = (decide (a2 < 0))) := by have h_ := c10; revert h_; generalize (decide (a0 < 0)) = x_; generalize (decide (a1 < 0)) = y_; generalize (decide (a2 < 0)) = z_; revert x_ y_ z_; decide))
    clear c10
    by_cases c11 : t270 > 0
    ·rw [if_pos c11] at H
     have c11b0 : decide (0 < t270) = true := decide_eq_true c11
     clear c11
     replace H := Option.bind_eq_some_iff.mp H
     obtain ⟨⟨t272, t273⟩, A120, H⟩ := H
     replace H : (some (t272, t273)) = some (r1, r2) := H
     have A12 := Aside0.mk A120
     clear A120
     simp only [Option.some.injEq, Prod.mk.injEq] at H
     obtain ⟨rfl, rfl⟩ := H
     go_enter Try.func21, Try.ntmps21
     go_wp2_with (first | ((with_reducible refine gate_callee (f := 32) rfl ?_); refine goesL_ (some 16) rfl rfl Try.func32 (by kernel_rfl) rfl #[.int .i64 a0] rfl (by (try simp only [List.map_toArray, List.map_cons, List.map_nil]); first | done | rfl | (simp only [List.length_drop, List.length_take]; rfl)) ?_; (with_reducible refine (mapsheetsref01_size.calls a0 t266 _ A5.out).mono ?_); rintro e w' ⟨rfl, ⟨nd, rfl⟩⟩; refine ⟨_, rfl, ?_⟩) | ((with_reducible refine gate_callee (f := 32) rfl ?_); refine goesL_ (some 18) rfl rfl Try.func32 (by kernel_rfl) rfl #[.int .i64 a1] rfl (by (try simp only [List.map_toArray, List.map_cons, List.map_nil]); first | done | rfl | (simp only [List.length_drop, List.length_take]; rfl)) ?_; (with_reducible refine (mapsheetsref01_size.calls a1 t267 _ A6.out).mono ?_); rintro e w' ⟨rfl, ⟨nd, rfl⟩⟩; refine ⟨_, rfl, ?_⟩) | ((with_reducible refine gate_callee (f := 32) rfl ?_); refine goesL_ (some 20) rfl rfl Try.func32 (by kernel_rfl) rfl #[.int .i64 a2] rfl (by (try simp only [List.map_toArray, List.map_cons, List.map_nil]); first | done | rfl | (simp only [List.length_drop, List.length_take]; rfl)) ?_; (with_reducible refine (mapsheetsref01_size.calls a2 t268 _ A7.out).mono ?_); rintro e w' ⟨rfl, ⟨nd, rfl⟩⟩; refine ⟨_, rfl, ?_⟩) | ((with_reducible refine gate_callee (f := 38) rfl ?_); refine goesL_ (some 21) rfl rfl Try.func38 (by kernel_rfl) rfl #[.int .u64 t266, .int .u64 t267, .int .u64 t268] rfl (by (try simp only [List.map_toArray, List.map_cons, List.map_nil]); first | done | rfl | (simp only [List.length_drop, List.length_take]; rfl)) ?_; (with_reducible refine (mapsheetsref01_product.calls k t266 t267 t268 t269 t270 true _ A8.out).mono ?_); rintro e w' ⟨rfl, ⟨nd, rfl⟩⟩; refine ⟨_, rfl, ?_⟩) | ((with_reducible refine gate_callee (f := 31) rfl ?_); refine goesL_ (some 48) rfl rfl Try.func31 (by kernel_rfl) rfl #[.bool (decide ((IntKind.u64.wrap (t269 + 1)) > 0)), .int .u64 (IntKind.u64.wrap (t269 + 1))] rfl (by (try simp only [List.map_toArray, List.map_cons, List.map_nil]); first | done | rfl | (simp only [List.length_drop, List.length_take]; rfl)) ?_; (with_reducible refine (mapsheetsref01_signed.calls k (decide ((IntKind.u64.wrap (t269 + 1)) > 0)) (IntKind.u64.wrap (t269 + 1)) t272 t273 _ A12.out).mono ?_); rintro e w' ⟨rfl, ⟨nd, rfl⟩⟩; refine ⟨_, rfl, ?_⟩))
     go_ret2
     exact ⟨by first | rfl | (simp; done) | (simp [*]; done), by repeat (first | exact Drawn0.refl _ | apply Drawn0.step)⟩
    ·rw [if_neg c11] at H
     have c11b0 : decide (0 < t270) = false := decide_eq_false c11
     clear c11
     replace H := Option.bind_eq_some_iff.mp H
     obtain ⟨⟨t274, t275⟩, A130, H⟩ := H
     replace H : (some (t274, t275)) = some (r1, r2) := H
     have A13 := Aside0.mk A130
     clear A130
     simp only [Option.some.injEq, Prod.mk.injEq] at H
     obtain ⟨rfl, rfl⟩ := H
     go_enter Try.func21, Try.ntmps21
     go_wp2_with (first | ((with_reducible refine gate_callee (f := 32) rfl ?_); refine goesL_ (some 16) rfl rfl Try.func32 (by kernel_rfl) rfl #[.int .i64 a0] rfl (by (try simp only [List.map_toArray, List.map_cons, List.map_nil]); first | done | rfl | (simp only [List.length_drop, List.length_take]; rfl)) ?_; (with_reducible refine (mapsheetsref01_size.calls a0 t266 _ A5.out).mono ?_); rintro e w' ⟨rfl, ⟨nd, rfl⟩⟩; refine ⟨_, rfl, ?_⟩) | ((with_reducible refine gate_callee (f := 32) rfl ?_); refine goesL_ (some 18) rfl rfl Try.func32 (by kernel_rfl) rfl #[.int .i64 a1] rfl (by (try simp only [List.map_toArray, List.map_cons, List.map_nil]); first | done | rfl | (simp only [List.length_drop, List.length_take]; rfl)) ?_; (with_reducible refine (mapsheetsref01_size.calls a1 t267 _ A6.out).mono ?_); rintro e w' ⟨rfl, ⟨nd, rfl⟩⟩; refine ⟨_, rfl, ?_⟩) | ((with_reducible refine gate_callee (f := 32) rfl ?_); refine goesL_ (some 20) rfl rfl Try.func32 (by kernel_rfl) rfl #[.int .i64 a2] rfl (by (try simp only [List.map_toArray, List.map_cons, List.map_nil]); first | done | rfl | (simp only [List.length_drop, List.length_take]; rfl)) ?_; (with_reducible refine (mapsheetsref01_size.calls a2 t268 _ A7.out).mono ?_); rintro e w' ⟨rfl, ⟨nd, rfl⟩⟩; refine ⟨_, rfl, ?_⟩) | ((with_reducible refine gate_callee (f := 38) rfl ?_); refine goesL_ (some 21) rfl rfl Try.func38 (by kernel_rfl) rfl #[.int .u64 t266, .int .u64 t267, .int .u64 t268] rfl (by (try simp only [List.map_toArray, List.map_cons, List.map_nil]); first | done | rfl | (simp only [List.length_drop, List.length_take]; rfl)) ?_; (with_reducible refine (mapsheetsref01_product.calls k t266 t267 t268 t269 t270 true _ A8.out).mono ?_); rintro e w' ⟨rfl, ⟨nd, rfl⟩⟩; refine ⟨_, rfl, ?_⟩) | ((with_reducible refine gate_callee (f := 31) rfl ?_); refine goesL_ (some 48) rfl rfl Try.func31 (by kernel_rfl) rfl #[.bool (decide (t269 > 0)), .int .u64 t269] rfl (by (try simp only [List.map_toArray, List.map_cons, List.map_nil]); first | done | rfl | (simp only [List.length_drop, List.length_take]; rfl)) ?_; (with_reducible refine (mapsheetsref01_signed.calls k (decide (t269 > 0)) t269 t274 t275 _ A13.out).mono ?_); rintro e w' ⟨rfl, ⟨nd, rfl⟩⟩; refine ⟨_, rfl, ?_⟩))
     go_ret2
     exact ⟨by first | rfl | (simp; done) | (simp [*]; done), by repeat (first | exact Drawn0.refl _ | apply Drawn0.step)⟩
   ·rw [if_neg c10] at H
    have c10b0 : (((decide (a0 < 0)) != (decide (a1 < 0))) != (decide (a2 < 0))) = false := by simpa using c10
    (try (have c10b1 : decide (((decide (a0 < 0)) != (decide (a1 < 0))) = (decide (a2 < 0))) = true := by simpa using c10))
    (try (have c10b2 : (((decide (a0 < 0)) != (decide (a1 < 0))) == (decide (a2 < 0))) = true := by simpa using c10))
    (try (have c10b3 : ¬ (((decide (a0 < 0)) == (decide (a1 < 0))) = (decide (a2 < 0))) := by have h_ := c10; revert h_; generalize (decide (a0 < 0)) = x_; generalize (decide (a1 < 0)) = y_; generalize (decide (a2 < 0)) = z_; revert x_ y_ z_; decide))
    clear c10
    replace H := Option.bind_eq_some_iff.mp H
    obtain ⟨⟨t276, t277⟩, A140, H⟩ := H
    replace H : (some (t276, t277)) = some (r1, r2) := H
    have A14 := Aside0.mk A140
    clear A140
    simp only [Option.some.injEq, Prod.mk.injEq] at H
    obtain ⟨rfl, rfl⟩ := H
    go_enter Try.func21, Try.ntmps21
    go_wp2_with (first | ((with_reducible refine gate_callee (f := 32) rfl ?_); refine goesL_ (some 16) rfl rfl Try.func32 (by kernel_rfl) rfl #[.int .i64 a0] rfl (by (try simp only [List.map_toArray, List.map_cons, List.map_nil]); first | done | rfl | (simp only [List.length_drop, List.length_take]; rfl)) ?_; (with_reducible refine (mapsheetsref01_size.calls a0 t266 _ A5.out).mono ?_); rintro e w' ⟨rfl, ⟨nd, rfl⟩⟩; refine ⟨_, rfl, ?_⟩) | ((with_reducible refine gate_callee (f := 32) rfl ?_); refine goesL_ (some 18) rfl rfl Try.func32 (by kernel_rfl) rfl #[.int .i64 a1] rfl (by (try simp only [List.map_toArray, List.map_cons, List.map_nil]); first | done | rfl | (simp only [List.length_drop, List.length_take]; rfl)) ?_; (with_reducible refine (mapsheetsref01_size.calls a1 t267 _ A6.out).mono ?_); rintro e w' ⟨rfl, ⟨nd, rfl⟩⟩; refine ⟨_, rfl, ?_⟩) | ((with_reducible refine gate_callee (f := 32) rfl ?_); refine goesL_ (some 20) rfl rfl Try.func32 (by kernel_rfl) rfl #[.int .i64 a2] rfl (by (try simp only [List.map_toArray, List.map_cons, List.map_nil]); first | done | rfl | (simp only [List.length_drop, List.length_take]; rfl)) ?_; (with_reducible refine (mapsheetsref01_size.calls a2 t268 _ A7.out).mono ?_); rintro e w' ⟨rfl, ⟨nd, rfl⟩⟩; refine ⟨_, rfl, ?_⟩) | ((with_reducible refine gate_callee (f := 38) rfl ?_); refine goesL_ (some 21) rfl rfl Try.func38 (by kernel_rfl) rfl #[.int .u64 t266, .int .u64 t267, .int .u64 t268] rfl (by (try simp only [List.map_toArray, List.map_cons, List.map_nil]); first | done | rfl | (simp only [List.length_drop, List.length_take]; rfl)) ?_; (with_reducible refine (mapsheetsref01_product.calls k t266 t267 t268 t269 t270 true _ A8.out).mono ?_); rintro e w' ⟨rfl, ⟨nd, rfl⟩⟩; refine ⟨_, rfl, ?_⟩) | ((with_reducible refine gate_callee (f := 31) rfl ?_); refine goesL_ (some 48) rfl rfl Try.func31 (by kernel_rfl) rfl #[.bool false, .int .u64 t269] rfl (by (try simp only [List.map_toArray, List.map_cons, List.map_nil]); first | done | rfl | (simp only [List.length_drop, List.length_take]; rfl)) ?_; (with_reducible refine (mapsheetsref01_signed.calls k false t269 t276 t277 _ A14.out).mono ?_); rintro e w' ⟨rfl, ⟨nd, rfl⟩⟩; refine ⟨_, rfl, ?_⟩))
    go_ret2
    exact ⟨by first | rfl | (simp; done) | (simp [*]; done), by repeat (first | exact Drawn0.refl _ | apply Drawn0.step)⟩
  ·replace c9 := Bool.eq_false_iff.mpr c9
   subst c9
   have H1 : (some (0, 15)) = some (r1, r2) := by rw [if_neg (show ¬ (false = true) by decide)] at H; exact H
   clear H
   have H := H1
   clear H1
   simp only [Option.some.injEq, Prod.mk.injEq] at H
   obtain ⟨rfl, rfl⟩ := H
   go_enter Try.func21, Try.ntmps21
   go_wp2_with (first | ((with_reducible refine gate_callee (f := 32) rfl ?_); refine goesL_ (some 16) rfl rfl Try.func32 (by kernel_rfl) rfl #[.int .i64 a0] rfl (by (try simp only [List.map_toArray, List.map_cons, List.map_nil]); first | done | rfl | (simp only [List.length_drop, List.length_take]; rfl)) ?_; (with_reducible refine (mapsheetsref01_size.calls a0 t266 _ A5.out).mono ?_); rintro e w' ⟨rfl, ⟨nd, rfl⟩⟩; refine ⟨_, rfl, ?_⟩) | ((with_reducible refine gate_callee (f := 32) rfl ?_); refine goesL_ (some 18) rfl rfl Try.func32 (by kernel_rfl) rfl #[.int .i64 a1] rfl (by (try simp only [List.map_toArray, List.map_cons, List.map_nil]); first | done | rfl | (simp only [List.length_drop, List.length_take]; rfl)) ?_; (with_reducible refine (mapsheetsref01_size.calls a1 t267 _ A6.out).mono ?_); rintro e w' ⟨rfl, ⟨nd, rfl⟩⟩; refine ⟨_, rfl, ?_⟩) | ((with_reducible refine gate_callee (f := 32) rfl ?_); refine goesL_ (some 20) rfl rfl Try.func32 (by kernel_rfl) rfl #[.int .i64 a2] rfl (by (try simp only [List.map_toArray, List.map_cons, List.map_nil]); first | done | rfl | (simp only [List.length_drop, List.length_take]; rfl)) ?_; (with_reducible refine (mapsheetsref01_size.calls a2 t268 _ A7.out).mono ?_); rintro e w' ⟨rfl, ⟨nd, rfl⟩⟩; refine ⟨_, rfl, ?_⟩) | ((with_reducible refine gate_callee (f := 38) rfl ?_); refine goesL_ (some 21) rfl rfl Try.func38 (by kernel_rfl) rfl #[.int .u64 t266, .int .u64 t267, .int .u64 t268] rfl (by (try simp only [List.map_toArray, List.map_cons, List.map_nil]); first | done | rfl | (simp only [List.length_drop, List.length_take]; rfl)) ?_; (with_reducible refine (mapsheetsref01_product.calls k t266 t267 t268 t269 t270 false _ A8.out).mono ?_); rintro e w' ⟨rfl, ⟨nd, rfl⟩⟩; refine ⟨_, rfl, ?_⟩))
   go_ret2
   exact ⟨by first | rfl | (simp; done) | (simp [*]; done), by repeat (first | exact Drawn0.refl _ | apply Drawn0.step)⟩

/-! ### mapsheetslaw01_NumProducts: function 5 -/
def mapsheetslaw01_NumProducts.f (k : Nat) (a0 : Int) (a1 : Int) (a2 : Int) : Option (Bool) := (num_MulDiv.f k a0 a1 a2).bind fun bt278 => ((num_MulDiv.f k a1 a0 a2).bind fun bt280 => ((mapsheetsref01_MulDiv.f k a0 a1 a2).bind fun bt282 => ((mapsheetslaw01_awake.f k).bind fun t284 => (if t284 = true then (if bt278.1 = bt282.1 then (if bt278.2 = bt282.2 then (if bt280.1 = bt282.1 then (some (bt280.2 == bt282.2)) else (none)) else (none)) else (none)) else (none)))))
theorem mapsheetslaw01_NumProducts.mono : ∀ a0 a1 a2 k, LeO (mapsheetslaw01_NumProducts.f k a0 a1 a2) (mapsheetslaw01_NumProducts.f (k + 1) a0 a1 a2) := by
  intro a0 a1 a2 k
  unfold mapsheetslaw01_NumProducts.f
  repeat' first
      | (with_reducible exact mapsheetslaw01_awake.mono _)
      | (with_reducible exact mapsheetsref01_MulDiv.mono _ _ _ _)
      | (with_reducible exact num_MulDiv.mono _ _ _ _)
      | (with_reducible exact LeO.refl _)
      | (with_reducible exact LeO.none _)
      | (with_reducible refine LeO.ite ?_ ?_)
      | (with_reducible refine LeO.bind ?_ (fun _ => ?_))
      | exact mapsheetslaw01_awake.mono _
      | exact mapsheetsref01_MulDiv.mono _ _ _ _
      | exact num_MulDiv.mono _ _ _ _
      | exact LeO.none _
      | refine LeO.ite ?_ ?_
      | refine LeO.bind ?_ (fun _ => ?_)
set_option maxHeartbeats 8000000 in
set_option maxRecDepth 100000 in
theorem mapsheetslaw01_NumProducts.calls (k : Nat) (a0 : Int) (a1 : Int) (a2 : Int) (r : Bool) (w : World) (h : mapsheetslaw01_NumProducts.f k a0 a1 a2 = some r) :
    Calls Try.prog 5 #[.int .i64 a0, .int .i64 a1, .int .i64 a2] w fun e w' => e = .returned (.bool r) ∧ Below w.heap.size w w' := by
 have HB := Aside0.mk (Below.refl w.heap.size w)
 have H : ((num_MulDiv.f k a0 a1 a2).bind fun bt278 => ((num_MulDiv.f k a1 a0 a2).bind fun bt280 => ((mapsheetsref01_MulDiv.f k a0 a1 a2).bind fun bt282 => ((mapsheetslaw01_awake.f k).bind fun t284 => (if t284 = true then (if bt278.1 = bt282.1 then (if bt278.2 = bt282.2 then (if bt280.1 = bt282.1 then (some (bt280.2 == bt282.2)) else (none)) else (none)) else (none)) else (none)))))) = some r := h
 clear h
 replace H := Option.bind_eq_some_iff.mp H
 obtain ⟨⟨t278, t279⟩, A40, H⟩ := H
 replace H : ((num_MulDiv.f k a1 a0 a2).bind fun bt280 => ((mapsheetsref01_MulDiv.f k a0 a1 a2).bind fun bt282 => ((mapsheetslaw01_awake.f k).bind fun t284 => (if t284 = true then (if t278 = bt282.1 then (if t279 = bt282.2 then (if bt280.1 = bt282.1 then (some (bt280.2 == bt282.2)) else (none)) else (none)) else (none)) else (none))))) = some r := H
 have A4 := Aside0.mk A40
 clear A40
 replace H := Option.bind_eq_some_iff.mp H
 obtain ⟨⟨t280, t281⟩, A50, H⟩ := H
 replace H : ((mapsheetsref01_MulDiv.f k a0 a1 a2).bind fun bt282 => ((mapsheetslaw01_awake.f k).bind fun t284 => (if t284 = true then (if t278 = bt282.1 then (if t279 = bt282.2 then (if t280 = bt282.1 then (some (t281 == bt282.2)) else (none)) else (none)) else (none)) else (none)))) = some r := H
 have A5 := Aside0.mk A50
 clear A50
 replace H := Option.bind_eq_some_iff.mp H
 obtain ⟨⟨t282, t283⟩, A60, H⟩ := H
 replace H : ((mapsheetslaw01_awake.f k).bind fun t284 => (if t284 = true then (if t278 = t282 then (if t279 = t283 then (if t280 = t282 then (some (t281 == t283)) else (none)) else (none)) else (none)) else (none))) = some r := H
 have A6 := Aside0.mk A60
 clear A60
 replace H := Option.bind_eq_some_iff.mp H
 obtain ⟨t284, A70, H⟩ := H
 replace H : (if t284 = true then (if t278 = t282 then (if t279 = t283 then (if t280 = t282 then (some (t281 == t283)) else (none)) else (none)) else (none)) else (none)) = some r := H
 have A7 := Aside0.mk A70
 clear A70
 by_cases c8 : t284 = true
 ·subst c8
  have H1 : (if t278 = t282 then (if t279 = t283 then (if t280 = t282 then (some (t281 == t283)) else (none)) else (none)) else (none)) = some r := by rw [if_pos rfl] at H; exact H
  clear H
  have H := H1
  clear H1
  by_cases c9 : t278 = t282
  ·rw [if_pos c9] at H
   have c9b0 : (t278 == t282) = true := beq_iff_eq.mpr c9
   have c9b1 : (t278 != t282) = false := bne_eq_false_iff_eq.mpr c9
   clear c9
   by_cases c10 : t279 = t283
   ·rw [if_pos c10] at H
    have c10b0 : (t279 == t283) = true := beq_iff_eq.mpr c10
    have c10b1 : (t279 != t283) = false := bne_eq_false_iff_eq.mpr c10
    clear c10
    by_cases c11 : t280 = t282
    ·rw [if_pos c11] at H
     have c11b0 : (t280 == t282) = true := beq_iff_eq.mpr c11
     have c11b1 : (t280 != t282) = false := bne_eq_false_iff_eq.mpr c11
     clear c11
     obtain rfl := Option.some.inj H
     go_enter Try.func5, Try.ntmps5
     go_wp2_with (first | ((with_reducible refine gate_callee (f := 20) rfl ?_); refine goesL_ (some 17) rfl rfl Try.func20 (by kernel_rfl) rfl #[.int .i64 a0, .int .i64 a1, .int .i64 a2] rfl (by (try simp only [List.map_toArray, List.map_cons, List.map_nil]); first | done | rfl | (simp only [List.length_drop, List.length_take]; rfl)) ?_; (with_reducible refine (num_MulDiv.calls k a0 a1 a2 t278 t279 _ A4.out).mono ?_); rintro e w' ⟨rfl, ⟨nd, rfl⟩⟩; refine ⟨_, rfl, ?_⟩) | ((with_reducible refine gate_callee (f := 20) rfl ?_); refine goesL_ (some 24) rfl rfl Try.func20 (by kernel_rfl) rfl #[.int .i64 a1, .int .i64 a0, .int .i64 a2] rfl (by (try simp only [List.map_toArray, List.map_cons, List.map_nil]); first | done | rfl | (simp only [List.length_drop, List.length_take]; rfl)) ?_; (with_reducible refine (num_MulDiv.calls k a1 a0 a2 t280 t281 _ A5.out).mono ?_); rintro e w' ⟨rfl, ⟨nd, rfl⟩⟩; refine ⟨_, rfl, ?_⟩) | ((with_reducible refine gate_callee (f := 21) rfl ?_); refine goesL_ (some 31) rfl rfl Try.func21 (by kernel_rfl) rfl #[.int .i64 a0, .int .i64 a1, .int .i64 a2] rfl (by (try simp only [List.map_toArray, List.map_cons, List.map_nil]); first | done | rfl | (simp only [List.length_drop, List.length_take]; rfl)) ?_; (with_reducible refine (mapsheetsref01_MulDiv.calls k a0 a1 a2 t282 t283 _ A6.out).mono ?_); rintro e w' ⟨rfl, ⟨nd, rfl⟩⟩; refine ⟨_, rfl, ?_⟩) | ((with_reducible refine gate_callee (f := 17) rfl ?_); refine goesL_ (some 34) rfl rfl Try.func17 (by kernel_rfl) rfl #[] rfl (by (try simp only [List.map_toArray, List.map_cons, List.map_nil]); first | done | rfl | (simp only [List.length_drop, List.length_take]; rfl)) ?_; (with_reducible refine (mapsheetslaw01_awake.calls k  true _ A7.out).mono ?_); rintro e w12 ⟨rfl, hb⟩; refine ⟨_, rfl, ?_⟩; have n0_ := Aside0.mk (below_step (by repeat (first | (with_reducible first | exact HB.out | apply below_alloc | apply pw_below_drewN | apply below_drew1) | exact HB.out)) hb); clear HB; have HB := n0_; clear n0_; (try clear hb); (try clear hb2); (try clear hk); (try clear hi)))
     go_ret
     exact ⟨by first | rfl | (simp [errW_none, errW_some] <;> rfl) | (simp [*, errW_none, errW_some] <;> rfl), by repeat (first | (with_reducible first | exact HB.out | apply below_alloc | apply pw_below_drewN | apply below_drew1) | exact HB.out)⟩
    ·rw [if_neg c11] at H
     exact absurd H (by simp)
   ·rw [if_neg c10] at H
    exact absurd H (by simp)
  ·rw [if_neg c9] at H
   exact absurd H (by simp)
 ·replace c8 := Bool.eq_false_iff.mpr c8
  subst c8
  have H1 : (none) = some r := by rw [if_neg (show ¬ (false = true) by decide)] at H; exact H
  clear H
  have H := H1
  clear H1
  exact absurd H (by simp)

/-- THE ONE PURE STATEMENT of mapsheetslaw01_NumProducts: yours. -/
def mapsheetslaw01_NumProducts.Pure : Prop := ∀ (a0 : Int) (a1 : Int) (a2 : Int), (Lit.int .i64 a0).wf = true → (Lit.int .i64 a1).wf = true → (Lit.int .i64 a2).wf = true → ∃ k, mapsheetslaw01_NumProducts.f k a0 a1 a2 = some true

end Go.Proofs.Ytngiipodkbfokaa.PAll
