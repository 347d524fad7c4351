-- Written by this session's own program wip/ext.py over the kit's print; not the kit's own print.
import Derived.Test.YtngiipodkbfokaaPAllx0
import Derived.Test.YtngiipodkbfokaaPAllx2
import Derived.Test.YtngiipodkbfokaaPAllx7
import Derived.Test.YtngiipodkbfokaaPAllx8
import Derived.Test.YtngiipodkbfokaaPAllx11
namespace Go.Proofs.Ytngiipodkbfokaa.PAll
open Go.RowKit Go.Proofs.YtngiipodkbfokaaW.PrintWords Go.Proofs.YtngiipodkbfokaaW.PrintLast Go.Proofs.YtngiipodkbfokaaW.PrintMore
attribute [local go_sem] max2_int min2_int max_two min_two max_three min_three max_four min_four   -- for this text's walks alone
set_option linter.unusedVariables false
set_option linter.unusedSimpArgs false

/-! ### mapsheetslaw01_NumProductLaws: function 6 -/
def mapsheetslaw01_NumProductLaws.j0 : Nat → Int → Int → Bool → Option (Bool)
  | 0, _, _, _ => none
  | k + 1, x0, x1, x30 => if x30 = true then (none) else ((num_MulDiv.f k x0 x1 x1).bind fun bt289 => (if x1 = 0 then ((mapsheetslaw01_awake.f k).bind fun t291 => (if t291 = true then (if bt289.1 = 0 then (some (bt289.2 == 21)) else (none)) else (none))) else ((mapsheetslaw01_awake.f k).bind fun t292 => (if t292 = true then (if bt289.1 = x0 then (some (bt289.2 == 0)) else (none)) else (none)))))
def mapsheetslaw01_NumProductLaws.f (k : Nat) (a0 : Int) (a1 : Int) : Option (Bool) := (num_MulDiv.f k a0 1 a1).bind fun bt285 => ((num_Floor.f k a0 a1).bind fun bt287 => (if bt285.1 = bt287.1 then (mapsheetslaw01_NumProductLaws.j0 k a0 a1 (bt285.2 != bt287.2)) else (mapsheetslaw01_NumProductLaws.j0 k a0 a1 true)))
theorem mapsheetslaw01_NumProductLaws.mono_l : ∀ k, (∀ y0 y1 y2, LeO (mapsheetslaw01_NumProductLaws.j0 k y0 y1 y2) (mapsheetslaw01_NumProductLaws.j0 (k + 1) y0 y1 y2))
  | 0 => fun _ _ _ r h => by simp [mapsheetslaw01_NumProductLaws.j0] at h
  | k + 1 => by
    have ih0 := mapsheetslaw01_NumProductLaws.mono_l k
    · intro y0 y1 y2
      unfold mapsheetslaw01_NumProductLaws.j0
      repeat' first
      | (with_reducible exact ih0 _ _ _)
      | (with_reducible exact mapsheetslaw01_awake.mono _)
      | (with_reducible exact num_Floor.mono _ _ _)
      | (with_reducible exact num_MulDiv.mono _ _ _ _)
      | (with_reducible exact LeO.refl _)
      | (with_reducible exact LeO.none _)
      | (with_reducible refine LeO.ite ?_ ?_)
      | (with_reducible refine LeO.bind ?_ (fun _ => ?_))
      | exact ih0 _ _ _
      | exact mapsheetslaw01_awake.mono _
      | exact num_Floor.mono _ _ _
      | exact num_MulDiv.mono _ _ _ _
      | exact LeO.none _
      | refine LeO.ite ?_ ?_
      | refine LeO.bind ?_ (fun _ => ?_)
theorem mapsheetslaw01_NumProductLaws.mono : ∀ a0 a1 k, LeO (mapsheetslaw01_NumProductLaws.f k a0 a1) (mapsheetslaw01_NumProductLaws.f (k + 1) a0 a1) := by
  intro a0 a1 k
  have ih0 := mapsheetslaw01_NumProductLaws.mono_l k
  unfold mapsheetslaw01_NumProductLaws.f
  repeat' first
      | (with_reducible exact ih0 _ _ _)
      | (with_reducible exact mapsheetslaw01_awake.mono _)
      | (with_reducible exact num_Floor.mono _ _ _)
      | (with_reducible exact num_MulDiv.mono _ _ _ _)
      | (with_reducible exact LeO.refl _)
      | (with_reducible exact LeO.none _)
      | (with_reducible refine LeO.ite ?_ ?_)
      | (with_reducible refine LeO.bind ?_ (fun _ => ?_))
      | exact ih0 _ _ _
      | exact mapsheetslaw01_awake.mono _
      | exact num_Floor.mono _ _ _
      | exact num_MulDiv.mono _ _ _ _
      | exact LeO.none _
      | refine LeO.ite ?_ ?_
      | refine LeO.bind ?_ (fun _ => ?_)
set_option maxHeartbeats 8000000 in
set_option maxRecDepth 100000 in
theorem mapsheetslaw01_NumProductLaws.calls (k : Nat) (a0 : Int) (a1 : Int) (r : Bool) (w : World) (h : mapsheetslaw01_NumProductLaws.f k a0 a1 = some r) :
    Calls Try.prog 6 #[.int .i64 a0, .int .i64 a1] w fun e w' => e = .returned (.bool r) ∧ Below w.heap.size w w' := by
 have HB := Aside0.mk (Below.refl w.heap.size w)
 have H : ((num_MulDiv.f k a0 1 a1).bind fun bt285 => ((num_Floor.f k a0 a1).bind fun bt287 => (if bt285.1 = bt287.1 then (mapsheetslaw01_NumProductLaws.j0 k a0 a1 (bt285.2 != bt287.2)) else (mapsheetslaw01_NumProductLaws.j0 k a0 a1 true)))) = some r := h
 clear h
 replace H := Option.bind_eq_some_iff.mp H
 obtain ⟨⟨t285, t286⟩, A30, H⟩ := H
 replace H : ((num_Floor.f k a0 a1).bind fun bt287 => (if t285 = bt287.1 then (mapsheetslaw01_NumProductLaws.j0 k a0 a1 (t286 != bt287.2)) else (mapsheetslaw01_NumProductLaws.j0 k a0 a1 true))) = some r := H
 have A3 := Aside0.mk A30
 clear A30
 replace H := Option.bind_eq_some_iff.mp H
 obtain ⟨⟨t287, t288⟩, A40, H⟩ := H
 replace H : (if t285 = t287 then (mapsheetslaw01_NumProductLaws.j0 k a0 a1 (t286 != t288)) else (mapsheetslaw01_NumProductLaws.j0 k a0 a1 true)) = some r := H
 have A4 := Aside0.mk A40
 clear A40
 have HC5 := Aside0.mk H
 clear H
 go_enter Try.func6, Try.ntmps6
 go_upto_region 3 with (first | ((with_reducible refine gate_callee (f := 20) rfl ?_); refine goesL_ (some 14) rfl rfl Try.func20 (by kernel_rfl) rfl #[.int .i64 a0, .int .i64 1, .int .i64 a1] rfl (by (try simp only [List.map_toArray, List.map_cons, List.map_nil]); first | done | rfl | (simp only [List.length_drop, List.length_take]; rfl)) ?_; (with_reducible refine (num_MulDiv.calls k a0 1 a1 t285 t286 _ A3.out).mono ?_); rintro e w' ⟨rfl, ⟨nd, rfl⟩⟩; refine ⟨_, rfl, ?_⟩) | ((with_reducible refine gate_callee (f := 11) rfl ?_); refine goesL_ (some 20) rfl rfl Try.func11 (by kernel_rfl) rfl #[.int .i64 a0, .int .i64 a1] rfl (by (try simp only [List.map_toArray, List.map_cons, List.map_nil]); first | done | rfl | (simp only [List.length_drop, List.length_take]; rfl)) ?_; (with_reducible refine (num_Floor.calls k a0 a1 t287 t288 _ A4.out).mono ?_); rintro e w' ⟨rfl, ⟨nd, rfl⟩⟩; refine ⟨_, rfl, ?_⟩))
 (try simp only [Act.put, List.setIfInBounds_toArray, List.set_cons_zero, List.set_cons_succ])
 go_cut [30] (fun v30 wc => ∃ (kq : Nat) (x30_4 : Bool), v30 = .bool x30_4 ∧ Aside0 (mapsheetslaw01_NumProductLaws.j0 kq a0 a1 x30_4 = some r) ∧ Aside0 (kq ≤ k) ∧ Aside0 (Below w.heap.size w wc))
 case first =>
  have H := HC5.out
  clear HC5
  by_cases c6 : t285 = t287
  ·rw [if_pos c6] at H
   have c6b0 : (t285 == t287) = true := beq_iff_eq.mpr c6
   have c6b1 : (t285 != t287) = false := bne_eq_false_iff_eq.mpr c6
   clear c6
   (first | rw [c6b0] | (simp only [i64_w, i32_w]; rw [c6b0]) | skip)
   have H' := Aside0.mk H
   clear H
   go_wp2
   go_meet
   case rel => exact ⟨_, ((t286 != t288)), (by first | rfl | (simp; done) | (simp [*]; done)), H', ⟨by first | omega | exact Nat.le_refl _⟩, ⟨by repeat (first | (with_reducible first | exact HB.out | apply below_alloc | apply pw_below_drewN | apply below_drew1) | exact HB.out)⟩⟩
  ·rw [if_neg c6] at H
   have c6b0 : (t285 == t287) = false := beq_eq_false_iff_ne.mpr c6
   have c6b1 : (t285 != t287) = true := bne_iff_ne.mpr c6
   (first | rw [c6b0] | (simp only [i64_w, i32_w]; rw [c6b0]) | skip)
   have H' := Aside0.mk H
   clear H
   go_wp2
   go_meet
   case rel => exact ⟨_, (true), (by first | rfl | (simp; done) | (simp [*]; done)), H', ⟨by first | omega | exact Nat.le_refl _⟩, ⟨by repeat (first | (with_reducible first | exact HB.out | apply below_alloc | apply pw_below_drewN | apply below_drew1) | exact HB.out)⟩⟩
 case rest =>
  clear HC5
  try clear c1
  try clear c2
  try clear p2
  try clear c6
  try clear c6b0
  try clear c6b1
  obtain ⟨kq, x30_4, rfl, HA, HJ4, HB⟩ := hcut
  cases kq with
  | zero => exact absurd HA.out (by simp [mapsheetslaw01_NumProductLaws.j0])
  | succ kj4 =>
   have H := HA.out
   clear HA
   simp only [mapsheetslaw01_NumProductLaws.j0] at H
   by_cases c7 : x30_4 = true
   ·subst c7
    have H1 : (none) = some r := by rw [if_pos rfl] at H; exact H
    clear H
    have H := H1
    clear H1
    exact absurd H (by simp)
   ·replace c7 := Bool.eq_false_iff.mpr c7
    subst c7
    have H1 : ((num_MulDiv.f kj4 a0 a1 a1).bind fun bt289 => (if a1 = 0 then ((mapsheetslaw01_awake.f kj4).bind fun t291 => (if t291 = true then (if bt289.1 = 0 then (some (bt289.2 == 21)) else (none)) else (none))) else ((mapsheetslaw01_awake.f kj4).bind fun t292 => (if t292 = true then (if bt289.1 = a0 then (some (bt289.2 == 0)) else (none)) else (none))))) = some r := by rw [if_neg (show ¬ (false = true) by decide)] at H; exact H
    clear H
    have H := H1
    clear H1
    replace H := Option.bind_eq_some_iff.mp H
    obtain ⟨⟨t289, t290⟩, A80, H⟩ := H
    replace H : (if a1 = 0 then ((mapsheetslaw01_awake.f kj4).bind fun t291 => (if t291 = true then (if t289 = 0 then (some (t290 == 21)) else (none)) else (none))) else ((mapsheetslaw01_awake.f kj4).bind fun t292 => (if t292 = true then (if t289 = a0 then (some (t290 == 0)) else (none)) else (none)))) = some r := H
    have A8 := Aside0.mk A80
    clear A80
    by_cases c9 : a1 = 0
    ·rw [if_pos c9] at H
     have c9b0 : (a1 == 0) = true := beq_iff_eq.mpr c9
     have c9b1 : (a1 != 0) = false := bne_eq_false_iff_eq.mpr c9
     clear c9
     replace H := Option.bind_eq_some_iff.mp H
     obtain ⟨t291, A100, H⟩ := H
     replace H : (if t291 = true then (if t289 = 0 then (some (t290 == 21)) else (none)) else (none)) = some r := H
     have A10 := Aside0.mk A100
     clear A100
     by_cases c11 : t291 = true
     ·subst c11
      have H1 : (if t289 = 0 then (some (t290 == 21)) else (none)) = some r := by rw [if_pos rfl] at H; exact H
      clear H
      have H := H1
      clear H1
      by_cases c12 : t289 = 0
      ·rw [if_pos c12] at H
       have c12b0 : (t289 == 0) = true := beq_iff_eq.mpr c12
       have c12b1 : (t289 != 0) = false := bne_eq_false_iff_eq.mpr c12
       clear c12
       obtain rfl := Option.some.inj H
       go_wp2_with (first | ((with_reducible refine gate_callee (f := 20) rfl ?_); refine goesL_ (some 35) rfl rfl Try.func20 (by kernel_rfl) rfl #[.int .i64 a0, .int .i64 a1, .int .i64 a1] rfl (by (try simp only [List.map_toArray, List.map_cons, List.map_nil]); first | done | rfl | (simp only [List.length_drop, List.length_take]; rfl)) ?_; (with_reducible refine (num_MulDiv.calls kj4 a0 a1 a1 t289 t290 _ A8.out).mono ?_); rintro e w' ⟨rfl, ⟨nd, rfl⟩⟩; refine ⟨_, rfl, ?_⟩) | ((with_reducible refine gate_callee (f := 17) rfl ?_); refine goesL_ (some 40) rfl rfl Try.func17 (by kernel_rfl) rfl #[] rfl (by (try simp only [List.map_toArray, List.map_cons, List.map_nil]); first | done | rfl | (simp only [List.length_drop, List.length_take]; rfl)) ?_; (with_reducible refine (mapsheetslaw01_awake.calls kj4  true _ A10.out).mono ?_); rintro e w13 ⟨rfl, hb⟩; refine ⟨_, rfl, ?_⟩; have n0_ := Aside0.mk (below_step (by repeat (first | (with_reducible first | exact HB.out | apply below_alloc | apply pw_below_drewN | apply below_drew1) | exact HB.out)) hb); clear HB; have HB := n0_; clear n0_; (try clear hb); (try clear hb2); (try clear hk); (try clear hi)))
       go_ret
       exact ⟨by first | rfl | (simp [errW_none, errW_some] <;> rfl) | (simp [*, errW_none, errW_some] <;> rfl), by repeat (first | (with_reducible first | exact HB.out | apply below_alloc | apply pw_below_drewN | apply below_drew1) | exact HB.out)⟩
      ·rw [if_neg c12] at H
       exact absurd H (by simp)
     ·replace c11 := Bool.eq_false_iff.mpr c11
      subst c11
      have H1 : (none) = some r := by rw [if_neg (show ¬ (false = true) by decide)] at H; exact H
      clear H
      have H := H1
      clear H1
      exact absurd H (by simp)
    ·rw [if_neg c9] at H
     have c9b0 : (a1 == 0) = false := beq_eq_false_iff_ne.mpr c9
     have c9b1 : (a1 != 0) = true := bne_iff_ne.mpr c9
     replace H := Option.bind_eq_some_iff.mp H
     obtain ⟨t292, A140, H⟩ := H
     replace H : (if t292 = true then (if t289 = a0 then (some (t290 == 0)) else (none)) else (none)) = some r := H
     have A14 := Aside0.mk A140
     clear A140
     by_cases c15 : t292 = true
     ·subst c15
      have H1 : (if t289 = a0 then (some (t290 == 0)) else (none)) = some r := by rw [if_pos rfl] at H; exact H
      clear H
      have H := H1
      clear H1
      by_cases c16 : t289 = a0
      ·rw [if_pos c16] at H
       have c16b0 : (t289 == a0) = true := beq_iff_eq.mpr c16
       have c16b1 : (t289 != a0) = false := bne_eq_false_iff_eq.mpr c16
       clear c16
       obtain rfl := Option.some.inj H
       go_wp2_with (first | ((with_reducible refine gate_callee (f := 20) rfl ?_); refine goesL_ (some 35) rfl rfl Try.func20 (by kernel_rfl) rfl #[.int .i64 a0, .int .i64 a1, .int .i64 a1] rfl (by (try simp only [List.map_toArray, List.map_cons, List.map_nil]); first | done | rfl | (simp only [List.length_drop, List.length_take]; rfl)) ?_; (with_reducible refine (num_MulDiv.calls kj4 a0 a1 a1 t289 t290 _ A8.out).mono ?_); rintro e w' ⟨rfl, ⟨nd, rfl⟩⟩; refine ⟨_, rfl, ?_⟩) | ((with_reducible refine gate_callee (f := 17) rfl ?_); refine goesL_ (some 49) rfl rfl Try.func17 (by kernel_rfl) rfl #[] rfl (by (try simp only [List.map_toArray, List.map_cons, List.map_nil]); first | done | rfl | (simp only [List.length_drop, List.length_take]; rfl)) ?_; (with_reducible refine (mapsheetslaw01_awake.calls kj4  true _ A14.out).mono ?_); rintro e w17 ⟨rfl, hb⟩; refine ⟨_, rfl, ?_⟩; have n0_ := Aside0.mk (below_step (by repeat (first | (with_reducible first | exact HB.out | apply below_alloc | apply pw_below_drewN | apply below_drew1) | exact HB.out)) hb); clear HB; have HB := n0_; clear n0_; (try clear hb); (try clear hb2); (try clear hk); (try clear hi)))
       go_ret
       exact ⟨by first | rfl | (simp [errW_none, errW_some] <;> rfl) | (simp [*, errW_none, errW_some] <;> rfl), by repeat (first | (with_reducible first | exact HB.out | apply below_alloc | apply pw_below_drewN | apply below_drew1) | exact HB.out)⟩
      ·rw [if_neg c16] at H
       exact absurd H (by simp)
     ·replace c15 := Bool.eq_false_iff.mpr c15
      subst c15
      have H1 : (none) = some r := by rw [if_neg (show ¬ (false = true) by decide)] at H; exact H
      clear H
      have H := H1
      clear H1
      exact absurd H (by simp)

/-- THE ONE PURE STATEMENT of mapsheetslaw01_NumProductLaws: yours. -/
def mapsheetslaw01_NumProductLaws.Pure : Prop := ∀ (a0 : Int) (a1 : Int), (Lit.int .i64 a0).wf = true → (Lit.int .i64 a1).wf = true → ∃ k, mapsheetslaw01_NumProductLaws.f k a0 a1 = some true

/-! ### mapsheetslaw01_NumRoots: function 7 -/
def mapsheetslaw01_NumRoots.f (k : Nat) (a0 : Int) : Option (Bool) := (num_Sqrt.f k a0).bind fun t293 => (if a0 < 0 then ((mapsheetslaw01_awake.f k).bind fun t294 => (if t294 = true then (some (t293 == 0)) else (none))) else (if t293 < 0 then (none) else (if t293 > 3037000499 then (none) else (if (wrap64 (t293 * t293)) > a0 then (none) else ((mapsheetslaw01_awake.f k).bind fun t295 => (if t295 = true then (if t293 = 3037000499 then (some true) else (some (decide ((wrap64 ((wrap64 (t293 + 1)) * (wrap64 (t293 + 1)))) > a0)))) else (none)))))))
theorem mapsheetslaw01_NumRoots.mono : ∀ a0 k, LeO (mapsheetslaw01_NumRoots.f k a0) (mapsheetslaw01_NumRoots.f (k + 1) a0) := by
  intro a0 k
  unfold mapsheetslaw01_NumRoots.f
  repeat' first
      | (with_reducible exact mapsheetslaw01_awake.mono _)
      | (with_reducible exact num_Sqrt.mono _ _)
      | (with_reducible exact LeO.refl _)
      | (with_reducible exact LeO.none _)
      | (with_reducible refine LeO.ite ?_ ?_)
      | (with_reducible refine LeO.bind ?_ (fun _ => ?_))
      | exact mapsheetslaw01_awake.mono _
      | exact num_Sqrt.mono _ _
      | exact LeO.none _
      | refine LeO.ite ?_ ?_
      | refine LeO.bind ?_ (fun _ => ?_)
set_option maxHeartbeats 8000000 in
set_option maxRecDepth 100000 in
theorem mapsheetslaw01_NumRoots.calls (k : Nat) (a0 : Int) (r : Bool) (w : World) (h : mapsheetslaw01_NumRoots.f k a0 = some r) :
    Calls Try.prog 7 #[.int .i64 a0] w fun e w' => e = .returned (.bool r) ∧ Below w.heap.size w w' := by
 have HB := Aside0.mk (Below.refl w.heap.size w)
 have H : ((num_Sqrt.f k a0).bind fun t293 => (if a0 < 0 then ((mapsheetslaw01_awake.f k).bind fun t294 => (if t294 = true then (some (t293 == 0)) else (none))) else (if t293 < 0 then (none) else (if t293 > 3037000499 then (none) else (if (wrap64 (t293 * t293)) > a0 then (none) else ((mapsheetslaw01_awake.f k).bind fun t295 => (if t295 = true then (if t293 = 3037000499 then (some true) else (some (decide ((wrap64 ((wrap64 (t293 + 1)) * (wrap64 (t293 + 1)))) > a0)))) else (none)))))))) = some r := h
 clear h
 replace H := Option.bind_eq_some_iff.mp H
 obtain ⟨t293, A20, H⟩ := H
 replace H : (if a0 < 0 then ((mapsheetslaw01_awake.f k).bind fun t294 => (if t294 = true then (some (t293 == 0)) else (none))) else (if t293 < 0 then (none) else (if t293 > 3037000499 then (none) else (if (wrap64 (t293 * t293)) > a0 then (none) else ((mapsheetslaw01_awake.f k).bind fun t295 => (if t295 = true then (if t293 = 3037000499 then (some true) else (some (decide ((wrap64 ((wrap64 (t293 + 1)) * (wrap64 (t293 + 1)))) > a0)))) else (none))))))) = some r := H
 have A2 := Aside0.mk A20
 clear A20
 by_cases c3 : a0 < 0
 ·rw [if_pos c3] at H
  have c3b0 : decide (a0 < 0) = true := decide_eq_true c3
  clear c3
  replace H := Option.bind_eq_some_iff.mp H
  obtain ⟨t294, A40, H⟩ := H
  replace H : (if t294 = true then (some (t293 == 0)) else (none)) = some r := H
  have A4 := Aside0.mk A40
  clear A40
  by_cases c5 : t294 = true
  ·subst c5
   have H1 : (some (t293 == 0)) = some r := by rw [if_pos rfl] at H; exact H
   clear H
   have H := H1
   clear H1
   obtain rfl := Option.some.inj H
   go_enter Try.func7, Try.ntmps7
   go_wp2_with (first | ((with_reducible refine gate_callee (f := 22) rfl ?_); refine goesL_ (some 5) rfl rfl Try.func22 (by kernel_rfl) rfl #[.int .i64 a0] rfl (by (try simp only [List.map_toArray, List.map_cons, List.map_nil]); first | done | rfl | (simp only [List.length_drop, List.length_take]; rfl)) ?_; (with_reducible refine (num_Sqrt.calls k a0 t293 _ A2.out).mono ?_); rintro e w' ⟨rfl, ⟨nd, rfl⟩⟩; refine ⟨_, rfl, ?_⟩) | ((with_reducible refine gate_callee (f := 17) rfl ?_); refine goesL_ (some 8) rfl rfl Try.func17 (by kernel_rfl) rfl #[] rfl (by (try simp only [List.map_toArray, List.map_cons, List.map_nil]); first | done | rfl | (simp only [List.length_drop, List.length_take]; rfl)) ?_; (with_reducible refine (mapsheetslaw01_awake.calls k  true _ A4.out).mono ?_); rintro e w6 ⟨rfl, hb⟩; refine ⟨_, rfl, ?_⟩; have n0_ := Aside0.mk (below_step (by repeat (first | (with_reducible first | exact HB.out | apply below_alloc | apply pw_below_drewN | apply below_drew1) | exact HB.out)) hb); clear HB; have HB := n0_; clear n0_; (try clear hb); (try clear hb2); (try clear hk); (try clear hi)))
   go_ret
   exact ⟨by first | rfl | (simp [errW_none, errW_some] <;> rfl) | (simp [*, errW_none, errW_some] <;> rfl), by repeat (first | (with_reducible first | exact HB.out | apply below_alloc | apply pw_below_drewN | apply below_drew1) | exact HB.out)⟩
  ·replace c5 := Bool.eq_false_iff.mpr c5
   subst c5
   have H1 : (none) = some r := by rw [if_neg (show ¬ (false = true) by decide)] at H; exact H
   clear H
   have H := H1
   clear H1
   exact absurd H (by simp)
 ·rw [if_neg c3] at H
  have c3b0 : decide (a0 < 0) = false := decide_eq_false c3
  clear c3
  by_cases c7 : t293 < 0
  ·rw [if_pos c7] at H
   exact absurd H (by simp)
  ·rw [if_neg c7] at H
   have c7b0 : decide (t293 < 0) = false := decide_eq_false c7
   clear c7
   by_cases c8 : t293 > 3037000499
   ·rw [if_pos c8] at H
    exact absurd H (by simp)
   ·rw [if_neg c8] at H
    have c8b0 : decide (3037000499 < t293) = false := decide_eq_false c8
    clear c8
    by_cases c9 : (wrap64 (t293 * t293)) > a0
    ·rw [if_pos c9] at H
     exact absurd H (by simp)
    ·rw [if_neg c9] at H
     have c9b0 : decide (a0 < (wrap64 (t293 * t293))) = false := decide_eq_false c9
     clear c9
     replace H := Option.bind_eq_some_iff.mp H
     obtain ⟨t295, A100, H⟩ := H
     replace H : (if t295 = true then (if t293 = 3037000499 then (some true) else (some (decide ((wrap64 ((wrap64 (t293 + 1)) * (wrap64 (t293 + 1)))) > a0)))) else (none)) = some r := H
     have A10 := Aside0.mk A100
     clear A100
     by_cases c11 : t295 = true
     ·subst c11
      have H1 : (if t293 = 3037000499 then (some true) else (some (decide ((wrap64 ((wrap64 (t293 + 1)) * (wrap64 (t293 + 1)))) > a0)))) = some r := by rw [if_pos rfl] at H; exact H
      clear H
      have H := H1
      clear H1
      by_cases c12 : t293 = 3037000499
      ·rw [if_pos c12] at H
       have c12b0 : (t293 == 3037000499) = true := beq_iff_eq.mpr c12
       have c12b1 : (t293 != 3037000499) = false := bne_eq_false_iff_eq.mpr c12
       clear c12
       obtain rfl := Option.some.inj H
       go_enter Try.func7, Try.ntmps7
       go_wp2_with (first | ((with_reducible refine gate_callee (f := 22) rfl ?_); refine goesL_ (some 5) rfl rfl Try.func22 (by kernel_rfl) rfl #[.int .i64 a0] rfl (by (try simp only [List.map_toArray, List.map_cons, List.map_nil]); first | done | rfl | (simp only [List.length_drop, List.length_take]; rfl)) ?_; (with_reducible refine (num_Sqrt.calls k a0 t293 _ A2.out).mono ?_); rintro e w' ⟨rfl, ⟨nd, rfl⟩⟩; refine ⟨_, rfl, ?_⟩) | ((with_reducible refine gate_callee (f := 17) rfl ?_); refine goesL_ (some 26) rfl rfl Try.func17 (by kernel_rfl) rfl #[] rfl (by (try simp only [List.map_toArray, List.map_cons, List.map_nil]); first | done | rfl | (simp only [List.length_drop, List.length_take]; rfl)) ?_; (with_reducible refine (mapsheetslaw01_awake.calls k  true _ A10.out).mono ?_); rintro e w13 ⟨rfl, hb⟩; refine ⟨_, rfl, ?_⟩; have n0_ := Aside0.mk (below_step (by repeat (first | (with_reducible first | exact HB.out | apply below_alloc | apply pw_below_drewN | apply below_drew1) | exact HB.out)) hb); clear HB; have HB := n0_; clear n0_; (try clear hb); (try clear hb2); (try clear hk); (try clear hi)))
       go_ret
       exact ⟨by first | rfl | (simp [errW_none, errW_some] <;> rfl) | (simp [*, errW_none, errW_some] <;> rfl), by repeat (first | (with_reducible first | exact HB.out | apply below_alloc | apply pw_below_drewN | apply below_drew1) | exact HB.out)⟩
      ·rw [if_neg c12] at H
       have c12b0 : (t293 == 3037000499) = false := beq_eq_false_iff_ne.mpr c12
       have c12b1 : (t293 != 3037000499) = true := bne_iff_ne.mpr c12
       obtain rfl := Option.some.inj H
       go_enter Try.func7, Try.ntmps7
       go_wp2_with (first | ((with_reducible refine gate_callee (f := 22) rfl ?_); refine goesL_ (some 5) rfl rfl Try.func22 (by kernel_rfl) rfl #[.int .i64 a0] rfl (by (try simp only [List.map_toArray, List.map_cons, List.map_nil]); first | done | rfl | (simp only [List.length_drop, List.length_take]; rfl)) ?_; (with_reducible refine (num_Sqrt.calls k a0 t293 _ A2.out).mono ?_); rintro e w' ⟨rfl, ⟨nd, rfl⟩⟩; refine ⟨_, rfl, ?_⟩) | ((with_reducible refine gate_callee (f := 17) rfl ?_); refine goesL_ (some 26) rfl rfl Try.func17 (by kernel_rfl) rfl #[] rfl (by (try simp only [List.map_toArray, List.map_cons, List.map_nil]); first | done | rfl | (simp only [List.length_drop, List.length_take]; rfl)) ?_; (with_reducible refine (mapsheetslaw01_awake.calls k  true _ A10.out).mono ?_); rintro e w14 ⟨rfl, hb⟩; refine ⟨_, rfl, ?_⟩; have n0_ := Aside0.mk (below_step (by repeat (first | (with_reducible first | exact HB.out | apply below_alloc | apply pw_below_drewN | apply below_drew1) | exact HB.out)) hb); clear HB; have HB := n0_; clear n0_; (try clear hb); (try clear hb2); (try clear hk); (try clear hi)))
       go_ret
       exact ⟨by first | rfl | (simp [errW_none, errW_some] <;> rfl) | (simp [*, errW_none, errW_some] <;> rfl), by repeat (first | (with_reducible first | exact HB.out | apply below_alloc | apply pw_below_drewN | apply below_drew1) | exact HB.out)⟩
     ·replace c11 := Bool.eq_false_iff.mpr c11
      subst c11
      have H1 : (none) = some r := by rw [if_neg (show ¬ (false = true) by decide)] at H; exact H
      clear H
      have H := H1
      clear H1
      exact absurd H (by simp)

/-- THE ONE PURE STATEMENT of mapsheetslaw01_NumRoots: yours. -/
def mapsheetslaw01_NumRoots.Pure : Prop := ∀ (a0 : Int), (Lit.int .i64 a0).wf = true → ∃ k, mapsheetslaw01_NumRoots.f k a0 = some true

end Go.Proofs.Ytngiipodkbfokaa.PAll
