-- Written by this session's own program wip/ext.py over the kit's print; not the kit's own print.
import Derived.Test.YtngiipodkbfokaaPAllx0
import Derived.Test.YtngiipodkbfokaaPAllx2
import Derived.Test.YtngiipodkbfokaaPAllx3
import Derived.Test.YtngiipodkbfokaaPAllx4
import Derived.Test.YtngiipodkbfokaaPAllx11
namespace Go.Proofs.Ytngiipodkbfokaa.PAll
open Go.RowKit Go.Proofs.YtngiipodkbfokaaW.PrintWords Go.Proofs.YtngiipodkbfokaaW.PrintLast Go.Proofs.YtngiipodkbfokaaW.PrintMore
attribute [local go_sem] max2_int min2_int max_two min_two max_three min_three max_four min_four   -- for this text's walks alone
set_option linter.unusedVariables false
set_option linter.unusedSimpArgs false

/-! ### mapsheetsref01_common: function 34 -/
def mapsheetsref01_common.l0 : Nat → Int → Int → Option (Int)
  | 0, _, _ => none
  | k + 1, x0, x1 => if x1 > 0 then (if x1 = 0 then (none) else (mapsheetsref01_common.l0 k x1 (Int.tmod x0 x1))) else (some x0)
def mapsheetsref01_common.f (k : Nat) (a0 : Int) (a1 : Int) : Option (Int) := mapsheetsref01_common.l0 k a0 a1
theorem mapsheetsref01_common.mono_l : ∀ k, (∀ y0 y1, LeO (mapsheetsref01_common.l0 k y0 y1) (mapsheetsref01_common.l0 (k + 1) y0 y1))
  | 0 => fun _ _ r h => by simp [mapsheetsref01_common.l0] at h
  | k + 1 => by
    have ih0 := mapsheetsref01_common.mono_l k
    · intro y0 y1
      unfold mapsheetsref01_common.l0
      repeat' first
      | (with_reducible exact ih0 _ _)
      | (with_reducible exact LeO.refl _)
      | (with_reducible exact LeO.none _)
      | (with_reducible refine LeO.ite ?_ ?_)
      | (with_reducible refine LeO.bind ?_ (fun _ => ?_))
      | exact ih0 _ _
      | exact LeO.none _
      | refine LeO.ite ?_ ?_
      | refine LeO.bind ?_ (fun _ => ?_)
theorem mapsheetsref01_common.mono : ∀ a0 a1 k, LeO (mapsheetsref01_common.f k a0 a1) (mapsheetsref01_common.f (k + 1) a0 a1) := by
  intro a0 a1 k
  have ih0 := mapsheetsref01_common.mono_l k
  unfold mapsheetsref01_common.f
  repeat' first
      | (with_reducible exact ih0 _ _)
      | (with_reducible exact LeO.refl _)
      | (with_reducible exact LeO.none _)
      | (with_reducible refine LeO.ite ?_ ?_)
      | (with_reducible refine LeO.bind ?_ (fun _ => ?_))
      | exact ih0 _ _
      | exact LeO.none _
      | refine LeO.ite ?_ ?_
      | refine LeO.bind ?_ (fun _ => ?_)
set_option maxHeartbeats 8000000 in
set_option maxRecDepth 100000 in
theorem mapsheetsref01_common.calls (k : Nat) (a0 : Int) (a1 : Int) (r : Int) (w : World) (h : mapsheetsref01_common.f k a0 a1 = some r) :
    Calls Try.prog 34 #[.int .u64 a0, .int .u64 a1] w fun e w' => e = .returned (.int .u64 r) ∧ Drawn0 w w' := by
 have H : (mapsheetsref01_common.l0 k a0 a1) = some r := h
 clear h
 have H' := Aside0.mk H
 clear H
 go_enter Try.func34, Try.ntmps34
 go_wp2
 repeat (go_quiet (fail); try go_wp2)
 go_loopg [0, 1] k (fun kq v0 v1 w' => ∃ (x0_1 : Int) (x1_1 : Int), v0 = .int .u64 x0_1 ∧ v1 = .int .u64 x1_1 ∧ Aside0 (mapsheetsref01_common.l0 kq x0_1 x1_1 = some r) ∧ Aside0 (kq ≤ k) ∧ Drawn0 w w')
 case atStart => exact ⟨(a0), (a1), (by first | rfl | (simp; done) | (simp [*]; done)), (by first | rfl | (simp; done) | (simp [*]; done)), H', ⟨Nat.le_refl _⟩, by repeat (first | exact Drawn0.refl _ | apply Drawn0.step)⟩
 case round =>
  clear H'
  try clear p2
  obtain ⟨x0_1, x1_1, rfl, rfl, HA, HK1, ⟨m1, rfl⟩⟩ := hrel
  cases gk with
  | zero => exact absurd HA.out (by simp [mapsheetsref01_common.l0])
  | succ k1 =>
   have H := HA.out
   clear HA
   simp only [mapsheetsref01_common.l0] at H
   by_cases c3 : x1_1 > 0
   ·rw [if_pos c3] at H
    have c3b0 : decide (0 < x1_1) = true := decide_eq_true c3
    clear c3
    by_cases c4 : x1_1 = 0
    ·rw [if_pos c4] at H
     exact absurd H (by simp)
    ·rw [if_neg c4] at H
     have c4b0 : (x1_1 == 0) = false := beq_eq_false_iff_ne.mpr c4
     have c4b1 : (x1_1 != 0) = true := bne_iff_ne.mpr c4
     have H' := Aside0.mk H
     clear H
     go_wp2
     repeat (go_quiet (fail); try go_wp2)
     go_roundg k1
     case measure => have := HK1.out; omega
     case rel => exact ⟨(x1_1), (Int.tmod x0_1 x1_1), (by first | rfl | (simp; done) | (simp [*]; done)), (by first | rfl | (simp; done) | (simp [*]; done)), H', ⟨by have := HK1.out; omega⟩, by repeat (first | exact Drawn0.refl _ | apply Drawn0.step)⟩
   ·rw [if_neg c3] at H
    have c3b0 : decide (0 < x1_1) = false := decide_eq_false c3
    clear c3
    obtain rfl := Option.some.inj H
    go_wp2
    repeat (go_quiet (fail); try go_wp2)
    go_ret
    exact ⟨by first | rfl | (simp; done) | (simp [*]; done), by repeat (first | exact Drawn0.refl _ | apply Drawn0.step)⟩

/-! ### mapsheetsref01_Gcd: function 19 -/
def mapsheetsref01_Gcd.f (k : Nat) (a0 : Int) (a1 : Int) : Option (Int) := (mapsheetsref01_size.f a0).bind fun t257 => ((mapsheetsref01_size.f a1).bind fun t258 => ((mapsheetsref01_common.f k t257 t258).bind fun t259 => ((mapsheetsref01_signed.f k false t259).bind fun bt260 => (some bt260.1))))
theorem mapsheetsref01_Gcd.mono : ∀ a0 a1 k, LeO (mapsheetsref01_Gcd.f k a0 a1) (mapsheetsref01_Gcd.f (k + 1) a0 a1) := by
  intro a0 a1 k
  unfold mapsheetsref01_Gcd.f
  repeat' first
      | (with_reducible exact mapsheetsref01_common.mono _ _ _)
      | (with_reducible exact mapsheetsref01_signed.mono _ _ _)
      | (with_reducible exact LeO.refl _)
      | (with_reducible exact LeO.none _)
      | (with_reducible refine LeO.ite ?_ ?_)
      | (with_reducible refine LeO.bind ?_ (fun _ => ?_))
      | exact mapsheetsref01_common.mono _ _ _
      | exact mapsheetsref01_signed.mono _ _ _
      | exact LeO.none _
      | refine LeO.ite ?_ ?_
      | refine LeO.bind ?_ (fun _ => ?_)
set_option maxHeartbeats 8000000 in
set_option maxRecDepth 100000 in
theorem mapsheetsref01_Gcd.calls (k : Nat) (a0 : Int) (a1 : Int) (r : Int) (w : World) (h : mapsheetsref01_Gcd.f k a0 a1 = some r) :
    Calls Try.prog 19 #[.int .i64 a0, .int .i64 a1] w fun e w' => e = .returned (.int .i64 r) ∧ Drawn0 w w' := by
 have H : ((mapsheetsref01_size.f a0).bind fun t257 => ((mapsheetsref01_size.f a1).bind fun t258 => ((mapsheetsref01_common.f k t257 t258).bind fun t259 => ((mapsheetsref01_signed.f k false t259).bind fun bt260 => (some bt260.1))))) = some r := h
 clear h
 replace H := Option.bind_eq_some_iff.mp H
 obtain ⟨t257, A30, H⟩ := H
 replace H : ((mapsheetsref01_size.f a1).bind fun t258 => ((mapsheetsref01_common.f k t257 t258).bind fun t259 => ((mapsheetsref01_signed.f k false t259).bind fun bt260 => (some bt260.1)))) = some r := H
 have A3 := Aside0.mk A30
 clear A30
 replace H := Option.bind_eq_some_iff.mp H
 obtain ⟨t258, A40, H⟩ := H
 replace H : ((mapsheetsref01_common.f k t257 t258).bind fun t259 => ((mapsheetsref01_signed.f k false t259).bind fun bt260 => (some bt260.1))) = some r := H
 have A4 := Aside0.mk A40
 clear A40
 replace H := Option.bind_eq_some_iff.mp H
 obtain ⟨t259, A50, H⟩ := H
 replace H : ((mapsheetsref01_signed.f k false t259).bind fun bt260 => (some bt260.1)) = some r := H
 have A5 := Aside0.mk A50
 clear A50
 replace H := Option.bind_eq_some_iff.mp H
 obtain ⟨⟨t260, t261⟩, A60, H⟩ := H
 replace H : (some t260) = some r := H
 have A6 := Aside0.mk A60
 clear A60
 obtain rfl := Option.some.inj H
 go_enter Try.func19, Try.ntmps19
 go_wp2_with (first | ((with_reducible refine gate_callee (f := 32) rfl ?_); refine goesL_ (some 9) rfl rfl Try.func32 (by kernel_rfl) rfl #[.int .i64 a0] rfl (by (try simp only [List.map_toArray, List.map_cons, List.map_nil]); first | done | rfl | (simp only [List.length_drop, List.length_take]; rfl)) ?_; (with_reducible refine (mapsheetsref01_size.calls a0 t257 _ A3.out).mono ?_); rintro e w' ⟨rfl, ⟨nd, rfl⟩⟩; refine ⟨_, rfl, ?_⟩) | ((with_reducible refine gate_callee (f := 32) rfl ?_); refine goesL_ (some 11) rfl rfl Try.func32 (by kernel_rfl) rfl #[.int .i64 a1] rfl (by (try simp only [List.map_toArray, List.map_cons, List.map_nil]); first | done | rfl | (simp only [List.length_drop, List.length_take]; rfl)) ?_; (with_reducible refine (mapsheetsref01_size.calls a1 t258 _ A4.out).mono ?_); rintro e w' ⟨rfl, ⟨nd, rfl⟩⟩; refine ⟨_, rfl, ?_⟩) | ((with_reducible refine gate_callee (f := 34) rfl ?_); refine goesL_ (some 12) rfl rfl Try.func34 (by kernel_rfl) rfl #[.int .u64 t257, .int .u64 t258] rfl (by (try simp only [List.map_toArray, List.map_cons, List.map_nil]); first | done | rfl | (simp only [List.length_drop, List.length_take]; rfl)) ?_; (with_reducible refine (mapsheetsref01_common.calls k t257 t258 t259 _ A5.out).mono ?_); rintro e w' ⟨rfl, ⟨nd, rfl⟩⟩; refine ⟨_, rfl, ?_⟩) | ((with_reducible refine gate_callee (f := 31) rfl ?_); refine goesL_ (some 13) rfl rfl Try.func31 (by kernel_rfl) rfl #[.bool false, .int .u64 t259] rfl (by (try simp only [List.map_toArray, List.map_cons, List.map_nil]); first | done | rfl | (simp only [List.length_drop, List.length_take]; rfl)) ?_; (with_reducible refine (mapsheetsref01_signed.calls k false t259 t260 t261 _ A6.out).mono ?_); rintro e w' ⟨rfl, ⟨nd, rfl⟩⟩; refine ⟨_, rfl, ?_⟩))
 go_ret
 exact ⟨by first | rfl | (simp; done) | (simp [*]; done), by repeat (first | exact Drawn0.refl _ | apply Drawn0.step)⟩

/-! ### mapsheetslaw01_NumGcd: function 4 -/
def mapsheetslaw01_NumGcd.f (k : Nat) (a0 : Int) (a1 : Int) : Option (Bool) := (num_Gcd.f k a0 a1).bind fun t262 => ((mapsheetsref01_Gcd.f k a0 a1).bind fun t263 => (if t262 = t263 then ((num_Gcd.f k a1 a0).bind fun t264 => (if t262 = t264 then ((mapsheetslaw01_awake.f k).bind fun t265 => (if t265 = true then (if t262 = 0 then (some true) else (if t262 > 0 then (if (Int.tmod a0 t262) = 0 then (some ((Int.tmod a1 t262) == 0)) else (none)) else (none))) else (none))) else (none))) else (none)))
theorem mapsheetslaw01_NumGcd.mono : ∀ a0 a1 k, LeO (mapsheetslaw01_NumGcd.f k a0 a1) (mapsheetslaw01_NumGcd.f (k + 1) a0 a1) := by
  intro a0 a1 k
  unfold mapsheetslaw01_NumGcd.f
  repeat' first
      | (with_reducible exact mapsheetslaw01_awake.mono _)
      | (with_reducible exact mapsheetsref01_Gcd.mono _ _ _)
      | (with_reducible exact num_Gcd.mono _ _ _)
      | (with_reducible exact LeO.refl _)
      | (with_reducible exact LeO.none _)
      | (with_reducible refine LeO.ite ?_ ?_)
      | (with_reducible refine LeO.bind ?_ (fun _ => ?_))
      | exact mapsheetslaw01_awake.mono _
      | exact mapsheetsref01_Gcd.mono _ _ _
      | exact num_Gcd.mono _ _ _
      | exact LeO.none _
      | refine LeO.ite ?_ ?_
      | refine LeO.bind ?_ (fun _ => ?_)
set_option maxHeartbeats 8000000 in
set_option maxRecDepth 100000 in
theorem mapsheetslaw01_NumGcd.calls (k : Nat) (a0 : Int) (a1 : Int) (r : Bool) (w : World) (h : mapsheetslaw01_NumGcd.f k a0 a1 = some r) :
    Calls Try.prog 4 #[.int .i64 a0, .int .i64 a1] w fun e w' => e = .returned (.bool r) ∧ Below w.heap.size w w' := by
 have HB := Aside0.mk (Below.refl w.heap.size w)
 have H : ((num_Gcd.f k a0 a1).bind fun t262 => ((mapsheetsref01_Gcd.f k a0 a1).bind fun t263 => (if t262 = t263 then ((num_Gcd.f k a1 a0).bind fun t264 => (if t262 = t264 then ((mapsheetslaw01_awake.f k).bind fun t265 => (if t265 = true then (if t262 = 0 then (some true) else (if t262 > 0 then (if (Int.tmod a0 t262) = 0 then (some ((Int.tmod a1 t262) == 0)) else (none)) else (none))) else (none))) else (none))) else (none)))) = some r := h
 clear h
 replace H := Option.bind_eq_some_iff.mp H
 obtain ⟨t262, A30, H⟩ := H
 replace H : ((mapsheetsref01_Gcd.f k a0 a1).bind fun t263 => (if t262 = t263 then ((num_Gcd.f k a1 a0).bind fun t264 => (if t262 = t264 then ((mapsheetslaw01_awake.f k).bind fun t265 => (if t265 = true then (if t262 = 0 then (some true) else (if t262 > 0 then (if (Int.tmod a0 t262) = 0 then (some ((Int.tmod a1 t262) == 0)) else (none)) else (none))) else (none))) else (none))) else (none))) = some r := H
 have A3 := Aside0.mk A30
 clear A30
 replace H := Option.bind_eq_some_iff.mp H
 obtain ⟨t263, A40, H⟩ := H
 replace H : (if t262 = t263 then ((num_Gcd.f k a1 a0).bind fun t264 => (if t262 = t264 then ((mapsheetslaw01_awake.f k).bind fun t265 => (if t265 = true then (if t262 = 0 then (some true) else (if t262 > 0 then (if (Int.tmod a0 t262) = 0 then (some ((Int.tmod a1 t262) == 0)) else (none)) else (none))) else (none))) else (none))) else (none)) = some r := H
 have A4 := Aside0.mk A40
 clear A40
 by_cases c5 : t262 = t263
 ·rw [if_pos c5] at H
  have c5b0 : (t262 == t263) = true := beq_iff_eq.mpr c5
  have c5b1 : (t262 != t263) = false := bne_eq_false_iff_eq.mpr c5
  clear c5
  replace H := Option.bind_eq_some_iff.mp H
  obtain ⟨t264, A60, H⟩ := H
  replace H : (if t262 = t264 then ((mapsheetslaw01_awake.f k).bind fun t265 => (if t265 = true then (if t262 = 0 then (some true) else (if t262 > 0 then (if (Int.tmod a0 t262) = 0 then (some ((Int.tmod a1 t262) == 0)) else (none)) else (none))) else (none))) else (none)) = some r := H
  have A6 := Aside0.mk A60
  clear A60
  by_cases c7 : t262 = t264
  ·rw [if_pos c7] at H
   have c7b0 : (t262 == t264) = true := beq_iff_eq.mpr c7
   have c7b1 : (t262 != t264) = false := bne_eq_false_iff_eq.mpr c7
   clear c7
   replace H := Option.bind_eq_some_iff.mp H
   obtain ⟨t265, A80, H⟩ := H
   replace H : (if t265 = true then (if t262 = 0 then (some true) else (if t262 > 0 then (if (Int.tmod a0 t262) = 0 then (some ((Int.tmod a1 t262) == 0)) else (none)) else (none))) else (none)) = some r := H
   have A8 := Aside0.mk A80
   clear A80
   by_cases c9 : t265 = true
   ·subst c9
    have H1 : (if t262 = 0 then (some true) else (if t262 > 0 then (if (Int.tmod a0 t262) = 0 then (some ((Int.tmod a1 t262) == 0)) else (none)) else (none))) = some r := by rw [if_pos rfl] at H; exact H
    clear H
    have H := H1
    clear H1
    by_cases c10 : t262 = 0
    ·rw [if_pos c10] at H
     have c10b0 : (t262 == 0) = true := beq_iff_eq.mpr c10
     have c10b1 : (t262 != 0) = false := bne_eq_false_iff_eq.mpr c10
     clear c10
     obtain rfl := Option.some.inj H
     go_enter Try.func4, Try.ntmps4
     go_wp2_with (first | ((with_reducible refine gate_callee (f := 18) rfl ?_); refine goesL_ (some 8) rfl rfl Try.func18 (by kernel_rfl) rfl #[.int .i64 a0, .int .i64 a1] rfl (by (try simp only [List.map_toArray, List.map_cons, List.map_nil]); first | done | rfl | (simp only [List.length_drop, List.length_take]; rfl)) ?_; (with_reducible refine (num_Gcd.calls k a0 a1 t262 _ A3.out).mono ?_); rintro e w' ⟨rfl, ⟨nd, rfl⟩⟩; refine ⟨_, rfl, ?_⟩) | ((with_reducible refine gate_callee (f := 19) rfl ?_); refine goesL_ (some 12) rfl rfl Try.func19 (by kernel_rfl) rfl #[.int .i64 a0, .int .i64 a1] rfl (by (try simp only [List.map_toArray, List.map_cons, List.map_nil]); first | done | rfl | (simp only [List.length_drop, List.length_take]; rfl)) ?_; (with_reducible refine (mapsheetsref01_Gcd.calls k a0 a1 t263 _ A4.out).mono ?_); rintro e w' ⟨rfl, ⟨nd, rfl⟩⟩; refine ⟨_, rfl, ?_⟩) | (go_at_call 18; (with_reducible refine (num_Gcd.calls k a1 a0 t264 _ A6.out).mono ?_); rintro e w' ⟨rfl, ⟨nd, rfl⟩⟩) | ((with_reducible refine gate_callee (f := 17) rfl ?_); refine goesL_ (some 21) rfl rfl Try.func17 (by kernel_rfl) rfl #[] rfl (by (try simp only [List.map_toArray, List.map_cons, List.map_nil]); first | done | rfl | (simp only [List.length_drop, List.length_take]; rfl)) ?_; (with_reducible refine (mapsheetslaw01_awake.calls k  true _ A8.out).mono ?_); rintro e w11 ⟨rfl, hb⟩; refine ⟨_, rfl, ?_⟩; have n0_ := Aside0.mk (below_step (by repeat (first | (with_reducible first | exact HB.out | apply below_alloc | apply pw_below_drewN | apply below_drew1) | exact HB.out)) hb); clear HB; have HB := n0_; clear n0_; (try clear hb); (try clear hb2); (try clear hk); (try clear hi)))
     go_ret
     exact ⟨by first | rfl | (simp [errW_none, errW_some] <;> rfl) | (simp [*, errW_none, errW_some] <;> rfl), by repeat (first | (with_reducible first | exact HB.out | apply below_alloc | apply pw_below_drewN | apply below_drew1) | exact HB.out)⟩
    ·rw [if_neg c10] at H
     have c10b0 : (t262 == 0) = false := beq_eq_false_iff_ne.mpr c10
     have c10b1 : (t262 != 0) = true := bne_iff_ne.mpr c10
     by_cases c12 : t262 > 0
     ·rw [if_pos c12] at H
      have c12b0 : decide (0 < t262) = true := decide_eq_true c12
      clear c12
      by_cases c13 : (Int.tmod a0 t262) = 0
      ·rw [if_pos c13] at H
       have c13b0 : ((Int.tmod a0 t262) == 0) = true := beq_iff_eq.mpr c13
       have c13b1 : ((Int.tmod a0 t262) != 0) = false := bne_eq_false_iff_eq.mpr c13
       clear c13
       obtain rfl := Option.some.inj H
       go_enter Try.func4, Try.ntmps4
       go_wp2_with (first | ((with_reducible refine gate_callee (f := 18) rfl ?_); refine goesL_ (some 8) rfl rfl Try.func18 (by kernel_rfl) rfl #[.int .i64 a0, .int .i64 a1] rfl (by (try simp only [List.map_toArray, List.map_cons, List.map_nil]); first | done | rfl | (simp only [List.length_drop, List.length_take]; rfl)) ?_; (with_reducible refine (num_Gcd.calls k a0 a1 t262 _ A3.out).mono ?_); rintro e w' ⟨rfl, ⟨nd, rfl⟩⟩; refine ⟨_, rfl, ?_⟩) | ((with_reducible refine gate_callee (f := 19) rfl ?_); refine goesL_ (some 12) rfl rfl Try.func19 (by kernel_rfl) rfl #[.int .i64 a0, .int .i64 a1] rfl (by (try simp only [List.map_toArray, List.map_cons, List.map_nil]); first | done | rfl | (simp only [List.length_drop, List.length_take]; rfl)) ?_; (with_reducible refine (mapsheetsref01_Gcd.calls k a0 a1 t263 _ A4.out).mono ?_); rintro e w' ⟨rfl, ⟨nd, rfl⟩⟩; refine ⟨_, rfl, ?_⟩) | (go_at_call 18; (with_reducible refine (num_Gcd.calls k a1 a0 t264 _ A6.out).mono ?_); rintro e w' ⟨rfl, ⟨nd, rfl⟩⟩) | ((with_reducible refine gate_callee (f := 17) rfl ?_); refine goesL_ (some 21) rfl rfl Try.func17 (by kernel_rfl) rfl #[] rfl (by (try simp only [List.map_toArray, List.map_cons, List.map_nil]); first | done | rfl | (simp only [List.length_drop, List.length_take]; rfl)) ?_; (with_reducible refine (mapsheetslaw01_awake.calls k  true _ A8.out).mono ?_); rintro e w14 ⟨rfl, hb⟩; refine ⟨_, rfl, ?_⟩; have n0_ := Aside0.mk (below_step (by repeat (first | (with_reducible first | exact HB.out | apply below_alloc | apply pw_below_drewN | apply below_drew1) | exact HB.out)) hb); clear HB; have HB := n0_; clear n0_; (try clear hb); (try clear hb2); (try clear hk); (try clear hi)))
       go_ret
       exact ⟨by first | rfl | (simp [errW_none, errW_some] <;> rfl) | (simp [*, errW_none, errW_some] <;> rfl), by repeat (first | (with_reducible first | exact HB.out | apply below_alloc | apply pw_below_drewN | apply below_drew1) | exact HB.out)⟩
      ·rw [if_neg c13] at H
       exact absurd H (by simp)
     ·rw [if_neg c12] at H
      exact absurd H (by simp)
   ·replace c9 := Bool.eq_false_iff.mpr c9
    subst c9
    have H1 : (none) = some r := by rw [if_neg (show ¬ (false = true) by decide)] at H; exact H
    clear H
    have H := H1
    clear H1
    exact absurd H (by simp)
  ·rw [if_neg c7] at H
   exact absurd H (by simp)
 ·rw [if_neg c5] at H
  exact absurd H (by simp)

/-- THE ONE PURE STATEMENT of mapsheetslaw01_NumGcd: yours. -/
def mapsheetslaw01_NumGcd.Pure : Prop := ∀ (a0 : Int) (a1 : Int), (Lit.int .i64 a0).wf = true → (Lit.int .i64 a1).wf = true → ∃ k, mapsheetslaw01_NumGcd.f k a0 a1 = some true

end Go.Proofs.Ytngiipodkbfokaa.PAll
