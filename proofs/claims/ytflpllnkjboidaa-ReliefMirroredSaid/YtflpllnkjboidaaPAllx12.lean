-- Written by this session's own program wip/ext.py over the kit's print; not the kit's own print.
import Derived.Test.YtflpllnkjboidaaPAllx0
import Derived.Test.YtflpllnkjboidaaPAllx11
namespace Go.Proofs.Ytflpllnkjboidaa.PAll
open Go.RowKit Go.Proofs.YtflpllnkjboidaaW.PrintWords Go.Proofs.YtflpllnkjboidaaW.PrintLast Go.Proofs.YtflpllnkjboidaaW.PrintMore
attribute [local go_sem] max2_int min2_int max_two min_two max_three min_three max_four min_four   -- for this text's walks alone
set_option linter.unusedVariables false
set_option linter.unusedSimpArgs false

/-! ### mapsheetsref01_signed: function 32 -/
def mapsheetsref01_signed.j0 : Nat → Bool → Int → Bool → Option (Int × Int)
  | 0, _, _, _ => none
  | k + 1, x0, x1, x15 => if x15 = true then (some (0, 15)) else (if x0 = true then (some (wrap64 (IntKind.u64.wrap (-x1)), 0)) else (some (wrap64 (x1), 0)))
def mapsheetsref01_signed.f (k : Nat) (a0 : Bool) (a1 : Int) : Option (Int × Int) := if a1 > 9223372036854775808 then (mapsheetsref01_signed.j0 k a0 a1 true) else (if a1 = 9223372036854775808 then (mapsheetsref01_signed.j0 k a0 a1 (!a0)) else (mapsheetsref01_signed.j0 k a0 a1 false))
theorem mapsheetsref01_signed.mono_l : ∀ k, (∀ y0 y1 y2, LeO (mapsheetsref01_signed.j0 k y0 y1 y2) (mapsheetsref01_signed.j0 (k + 1) y0 y1 y2))
  | 0 => fun _ _ _ r h => by simp [mapsheetsref01_signed.j0] at h
  | k + 1 => by
    have ih0 := mapsheetsref01_signed.mono_l k
    · intro y0 y1 y2
      unfold mapsheetsref01_signed.j0
      repeat' first
      | (with_reducible exact ih0 _ _ _)
      | (with_reducible exact LeO.refl _)
      | (with_reducible exact LeO.none _)
      | (with_reducible refine LeO.ite ?_ ?_)
      | (with_reducible refine LeO.bind ?_ (fun _ => ?_))
      | exact ih0 _ _ _
      | exact LeO.none _
      | refine LeO.ite ?_ ?_
      | refine LeO.bind ?_ (fun _ => ?_)
theorem mapsheetsref01_signed.mono : ∀ a0 a1 k, LeO (mapsheetsref01_signed.f k a0 a1) (mapsheetsref01_signed.f (k + 1) a0 a1) := by
  intro a0 a1 k
  have ih0 := mapsheetsref01_signed.mono_l k
  unfold mapsheetsref01_signed.f
  repeat' first
      | (with_reducible exact ih0 _ _ _)
      | (with_reducible exact LeO.refl _)
      | (with_reducible exact LeO.none _)
      | (with_reducible refine LeO.ite ?_ ?_)
      | (with_reducible refine LeO.bind ?_ (fun _ => ?_))
      | exact ih0 _ _ _
      | exact LeO.none _
      | refine LeO.ite ?_ ?_
      | refine LeO.bind ?_ (fun _ => ?_)
set_option maxHeartbeats 8000000 in
set_option maxRecDepth 100000 in
theorem mapsheetsref01_signed.calls (k : Nat) (a0 : Bool) (a1 : Int) (r1 : Int) (r2 : Int) (w : World) (h : mapsheetsref01_signed.f k a0 a1 = some (r1, r2)) :
    Calls Try.prog 32 #[.bool a0, .int .u64 a1] w fun e w' => e = .returned (.tuple #[.int .i64 r1, .int .i64 r2]) ∧ Drawn0 w w' := by
 have H : (if a1 > 9223372036854775808 then (mapsheetsref01_signed.j0 k a0 a1 true) else (if a1 = 9223372036854775808 then (mapsheetsref01_signed.j0 k a0 a1 (!a0)) else (mapsheetsref01_signed.j0 k a0 a1 false))) = some (r1, r2) := h
 clear h
 have HC3 := Aside0.mk H
 clear H
 go_enter Try.func32, Try.ntmps32
 go_upto_region 1 with (fail)
 go_cut [15] (fun v15 wc => ∃ (kq : Nat) (x15_2 : Bool), v15 = .bool x15_2 ∧ Aside0 (mapsheetsref01_signed.j0 kq a0 a1 x15_2 = some (r1, r2)) ∧ Aside0 (kq ≤ k) ∧ Drawn0 w wc)
 case first =>
  have H := HC3.out
  clear HC3
  by_cases c4 : a1 > 9223372036854775808
  ·rw [if_pos c4] at H
   have c4b0 : decide (9223372036854775808 < a1) = true := decide_eq_true c4
   clear c4
   (first | rw [c4b0] | (simp only [i64_w, i32_w]; rw [c4b0]) | skip)
   have H' := Aside0.mk H
   clear H
   go_wp2
   go_meet
   case rel => exact ⟨_, (true), (by first | rfl | (simp; done) | (simp [*]; done)), H', ⟨by first | omega | exact Nat.le_refl _⟩, by repeat (first | exact Drawn0.refl _ | apply Drawn0.step)⟩
  ·rw [if_neg c4] at H
   have c4b0 : decide (9223372036854775808 < a1) = false := decide_eq_false c4
   clear c4
   (first | rw [c4b0] | (simp only [i64_w, i32_w]; rw [c4b0]) | skip)
   by_cases c5 : a1 = 9223372036854775808
   ·rw [if_pos c5] at H
    have c5b0 : (a1 == 9223372036854775808) = true := beq_iff_eq.mpr c5
    have c5b1 : (a1 != 9223372036854775808) = false := bne_eq_false_iff_eq.mpr c5
    clear c5
    have H' := Aside0.mk H
    clear H
    go_wp2
    go_meet
    case rel => exact ⟨_, (!a0), (by first | rfl | (simp; done) | (simp [*]; done)), H', ⟨by first | omega | exact Nat.le_refl _⟩, by repeat (first | exact Drawn0.refl _ | apply Drawn0.step)⟩
   ·rw [if_neg c5] at H
    have c5b0 : (a1 == 9223372036854775808) = false := beq_eq_false_iff_ne.mpr c5
    have c5b1 : (a1 != 9223372036854775808) = true := bne_iff_ne.mpr c5
    have H' := Aside0.mk H
    clear H
    go_wp2
    go_meet
    case rel => exact ⟨_, (false), (by first | rfl | (simp; done) | (simp [*]; done)), H', ⟨by first | omega | exact Nat.le_refl _⟩, by repeat (first | exact Drawn0.refl _ | apply Drawn0.step)⟩
 case rest =>
  clear HC3
  try clear p2
  try clear c3
  try clear c4
  try clear c4b0
  try clear c5
  try clear c5b0
  try clear c5b1
  obtain ⟨kq, x15_2, rfl, HA, HJ2, ⟨mc2, rfl⟩⟩ := hcut
  cases kq with
  | zero => exact absurd HA.out (by simp [mapsheetsref01_signed.j0])
  | succ kj2 =>
   have H := HA.out
   clear HA
   simp only [mapsheetsref01_signed.j0] at H
   by_cases c6 : x15_2 = true
   ·subst c6
    have H1 : (some (0, 15)) = some (r1, r2) := by rw [if_pos rfl] at H; exact H
    clear H
    have H := H1
    clear H1
    simp only [Option.some.injEq, Prod.mk.injEq] at H
    obtain ⟨rfl, rfl⟩ := H
    go_wp2
    go_ret2
    exact ⟨by first | rfl | (simp; done) | (simp [*]; done), by repeat (first | exact Drawn0.refl _ | apply Drawn0.step)⟩
   ·replace c6 := Bool.eq_false_iff.mpr c6
    subst c6
    have H1 : (if a0 = true then (some (wrap64 (IntKind.u64.wrap (-a1)), 0)) else (some (wrap64 (a1), 0))) = some (r1, r2) := by rw [if_neg (show ¬ (false = true) by decide)] at H; exact H
    clear H
    have H := H1
    clear H1
    by_cases c7 : a0 = true
    ·subst c7
     have H1 : (some (wrap64 (IntKind.u64.wrap (-a1)), 0)) = some (r1, r2) := by rw [if_pos rfl] at H; exact H
     clear H
     have H := H1
     clear H1
     simp only [Option.some.injEq, Prod.mk.injEq] at H
     obtain ⟨rfl, rfl⟩ := H
     go_wp2
     go_ret2
     exact ⟨by first | rfl | (simp; done) | (simp [*]; done), by repeat (first | exact Drawn0.refl _ | apply Drawn0.step)⟩
    ·replace c7 := Bool.eq_false_iff.mpr c7
     subst c7
     have H1 : (some (wrap64 (a1), 0)) = some (r1, r2) := by rw [if_neg (show ¬ (false = true) by decide)] at H; exact H
     clear H
     have H := H1
     clear H1
     simp only [Option.some.injEq, Prod.mk.injEq] at H
     obtain ⟨rfl, rfl⟩ := H
     go_wp2
     go_ret2
     exact ⟨by first | rfl | (simp; done) | (simp [*]; done), by repeat (first | exact Drawn0.refl _ | apply Drawn0.step)⟩

/-! ### mapsheetsref01_Round: function 22 -/
def mapsheetsref01_Round.f (k : Nat) (a0 : Int) (a1 : Int) : Option (Int × Int) := if a1 = 0 then (some (0, 21)) else ((mapsheetsref01_parts.f a0 a1).bind fun bt227 => ((mapsheetsref01_size.f a1).bind fun t230 => (if bt227.2.1 > (IntKind.u64.wrap (t230 - bt227.2.1)) then ((mapsheetsref01_signed.f k bt227.2.2 (IntKind.u64.wrap (bt227.1 + 1))).bind fun bt231 => (some (bt231.1, bt231.2))) else (if bt227.2.1 = (IntKind.u64.wrap (t230 - bt227.2.1)) then (if bt227.2.2 = true then ((mapsheetsref01_signed.f k bt227.2.2 bt227.1).bind fun bt233 => (some (bt233.1, bt233.2))) else ((mapsheetsref01_signed.f k bt227.2.2 (IntKind.u64.wrap (bt227.1 + 1))).bind fun bt235 => (some (bt235.1, bt235.2)))) else ((mapsheetsref01_signed.f k bt227.2.2 bt227.1).bind fun bt237 => (some (bt237.1, bt237.2)))))))
theorem mapsheetsref01_Round.mono : ∀ a0 a1 k, LeO (mapsheetsref01_Round.f k a0 a1) (mapsheetsref01_Round.f (k + 1) a0 a1) := by
  intro a0 a1 k
  unfold mapsheetsref01_Round.f
  repeat' first
      | (with_reducible exact mapsheetsref01_signed.mono _ _ _)
      | (with_reducible exact LeO.refl _)
      | (with_reducible exact LeO.none _)
      | (with_reducible refine LeO.ite ?_ ?_)
      | (with_reducible refine LeO.bind ?_ (fun _ => ?_))
      | exact mapsheetsref01_signed.mono _ _ _
      | exact LeO.none _
      | refine LeO.ite ?_ ?_
      | refine LeO.bind ?_ (fun _ => ?_)
set_option maxHeartbeats 8000000 in
set_option maxRecDepth 100000 in
theorem mapsheetsref01_Round.calls (k : Nat) (a0 : Int) (a1 : Int) (r1 : Int) (r2 : Int) (w : World) (h : mapsheetsref01_Round.f k a0 a1 = some (r1, r2)) :
    Calls Try.prog 22 #[.int .i64 a0, .int .i64 a1] w fun e w' => e = .returned (.tuple #[.int .i64 r1, .int .i64 r2]) ∧ Drawn0 w w' := by
 have H : (if a1 = 0 then (some (0, 21)) else ((mapsheetsref01_parts.f a0 a1).bind fun bt227 => ((mapsheetsref01_size.f a1).bind fun t230 => (if bt227.2.1 > (IntKind.u64.wrap (t230 - bt227.2.1)) then ((mapsheetsref01_signed.f k bt227.2.2 (IntKind.u64.wrap (bt227.1 + 1))).bind fun bt231 => (some (bt231.1, bt231.2))) else (if bt227.2.1 = (IntKind.u64.wrap (t230 - bt227.2.1)) then (if bt227.2.2 = true then ((mapsheetsref01_signed.f k bt227.2.2 bt227.1).bind fun bt233 => (some (bt233.1, bt233.2))) else ((mapsheetsref01_signed.f k bt227.2.2 (IntKind.u64.wrap (bt227.1 + 1))).bind fun bt235 => (some (bt235.1, bt235.2)))) else ((mapsheetsref01_signed.f k bt227.2.2 bt227.1).bind fun bt237 => (some (bt237.1, bt237.2)))))))) = some (r1, r2) := h
 clear h
 by_cases c3 : a1 = 0
 ·rw [if_pos c3] at H
  have c3b0 : (a1 == 0) = true := beq_iff_eq.mpr c3
  have c3b1 : (a1 != 0) = false := bne_eq_false_iff_eq.mpr c3
  clear c3
  simp only [Option.some.injEq, Prod.mk.injEq] at H
  obtain ⟨rfl, rfl⟩ := H
  go_enter Try.func22, Try.ntmps22
  go_wp2
  go_ret2
  exact ⟨by first | rfl | (simp; done) | (simp [*]; done), by repeat (first | exact Drawn0.refl _ | apply Drawn0.step)⟩
 ·rw [if_neg c3] at H
  have c3b0 : (a1 == 0) = false := beq_eq_false_iff_ne.mpr c3
  have c3b1 : (a1 != 0) = true := bne_iff_ne.mpr c3
  replace H := Option.bind_eq_some_iff.mp H
  obtain ⟨⟨t227, t228, t229⟩, A40, H⟩ := H
  replace H : ((mapsheetsref01_size.f a1).bind fun t230 => (if t228 > (IntKind.u64.wrap (t230 - t228)) then ((mapsheetsref01_signed.f k t229 (IntKind.u64.wrap (t227 + 1))).bind fun bt231 => (some (bt231.1, bt231.2))) else (if t228 = (IntKind.u64.wrap (t230 - t228)) then (if t229 = true then ((mapsheetsref01_signed.f k t229 t227).bind fun bt233 => (some (bt233.1, bt233.2))) else ((mapsheetsref01_signed.f k t229 (IntKind.u64.wrap (t227 + 1))).bind fun bt235 => (some (bt235.1, bt235.2)))) else ((mapsheetsref01_signed.f k t229 t227).bind fun bt237 => (some (bt237.1, bt237.2)))))) = some (r1, r2) := H
  have A4 := Aside0.mk A40
  clear A40
  replace H := Option.bind_eq_some_iff.mp H
  obtain ⟨t230, A50, H⟩ := H
  replace H : (if t228 > (IntKind.u64.wrap (t230 - t228)) then ((mapsheetsref01_signed.f k t229 (IntKind.u64.wrap (t227 + 1))).bind fun bt231 => (some (bt231.1, bt231.2))) else (if t228 = (IntKind.u64.wrap (t230 - t228)) then (if t229 = true then ((mapsheetsref01_signed.f k t229 t227).bind fun bt233 => (some (bt233.1, bt233.2))) else ((mapsheetsref01_signed.f k t229 (IntKind.u64.wrap (t227 + 1))).bind fun bt235 => (some (bt235.1, bt235.2)))) else ((mapsheetsref01_signed.f k t229 t227).bind fun bt237 => (some (bt237.1, bt237.2))))) = some (r1, r2) := H
  have A5 := Aside0.mk A50
  clear A50
  by_cases c6 : t228 > (IntKind.u64.wrap (t230 - t228))
  ·rw [if_pos c6] at H
   have c6b0 : decide ((IntKind.u64.wrap (t230 - t228)) < t228) = true := decide_eq_true c6
   clear c6
   replace H := Option.bind_eq_some_iff.mp H
   obtain ⟨⟨t231, t232⟩, A70, H⟩ := H
   replace H : (some (t231, t232)) = some (r1, r2) := H
   have A7 := Aside0.mk A70
   clear A70
   simp only [Option.some.injEq, Prod.mk.injEq] at H
   obtain ⟨rfl, rfl⟩ := H
   go_enter Try.func22, Try.ntmps22
   go_wp2_with (first | ((with_reducible refine gate_callee (f := 30) rfl ?_); refine goesL_ (some 15) rfl rfl Try.func30 (by kernel_rfl) rfl #[.int .i64 a0, .int .i64 a1] rfl (by (try simp only [List.map_toArray, List.map_cons, List.map_nil]); first | done | rfl | (simp only [List.length_drop, List.length_take]; rfl)) ?_; (with_reducible refine (mapsheetsref01_parts.calls a0 a1 t227 t228 t229 _ A4.out).mono ?_); rintro e w' ⟨rfl, ⟨nd, rfl⟩⟩; refine ⟨_, rfl, ?_⟩) | ((with_reducible refine gate_callee (f := 31) rfl ?_); refine goesL_ (some 20) rfl rfl Try.func31 (by kernel_rfl) rfl #[.int .i64 a1] rfl (by (try simp only [List.map_toArray, List.map_cons, List.map_nil]); first | done | rfl | (simp only [List.length_drop, List.length_take]; rfl)) ?_; (with_reducible refine (mapsheetsref01_size.calls a1 t230 _ A5.out).mono ?_); rintro e w' ⟨rfl, ⟨nd, rfl⟩⟩; refine ⟨_, rfl, ?_⟩) | ((with_reducible refine gate_callee (f := 32) rfl ?_); refine goesL_ (some 39) rfl rfl Try.func32 (by kernel_rfl) rfl #[.bool t229, .int .u64 (IntKind.u64.wrap (t227 + 1))] rfl (by (try simp only [List.map_toArray, List.map_cons, List.map_nil]); first | done | rfl | (simp only [List.length_drop, List.length_take]; rfl)) ?_; (with_reducible refine (mapsheetsref01_signed.calls k t229 (IntKind.u64.wrap (t227 + 1)) t231 t232 _ A7.out).mono ?_); rintro e w' ⟨rfl, ⟨nd, rfl⟩⟩; refine ⟨_, rfl, ?_⟩))
   go_ret2
   exact ⟨by first | rfl | (simp; done) | (simp [*]; done), by repeat (first | exact Drawn0.refl _ | apply Drawn0.step)⟩
  ·rw [if_neg c6] at H
   have c6b0 : decide ((IntKind.u64.wrap (t230 - t228)) < t228) = false := decide_eq_false c6
   clear c6
   by_cases c8 : t228 = (IntKind.u64.wrap (t230 - t228))
   ·rw [if_pos c8] at H
    have c8b0 : (t228 == (IntKind.u64.wrap (t230 - t228))) = true := beq_iff_eq.mpr c8
    have c8b1 : (t228 != (IntKind.u64.wrap (t230 - t228))) = false := bne_eq_false_iff_eq.mpr c8
    clear c8
    by_cases c9 : t229 = true
    ·subst c9
     have H1 : ((mapsheetsref01_signed.f k true t227).bind fun bt233 => (some (bt233.1, bt233.2))) = some (r1, r2) := by rw [if_pos rfl] at H; exact H
     clear H
     have H := H1
     clear H1
     replace H := Option.bind_eq_some_iff.mp H
     obtain ⟨⟨t233, t234⟩, A100, H⟩ := H
     replace H : (some (t233, t234)) = some (r1, r2) := H
     have A10 := Aside0.mk A100
     clear A100
     simp only [Option.some.injEq, Prod.mk.injEq] at H
     obtain ⟨rfl, rfl⟩ := H
     go_enter Try.func22, Try.ntmps22
     go_wp2_with (first | ((with_reducible refine gate_callee (f := 30) rfl ?_); refine goesL_ (some 15) rfl rfl Try.func30 (by kernel_rfl) rfl #[.int .i64 a0, .int .i64 a1] rfl (by (try simp only [List.map_toArray, List.map_cons, List.map_nil]); first | done | rfl | (simp only [List.length_drop, List.length_take]; rfl)) ?_; (with_reducible refine (mapsheetsref01_parts.calls a0 a1 t227 t228 true _ A4.out).mono ?_); rintro e w' ⟨rfl, ⟨nd, rfl⟩⟩; refine ⟨_, rfl, ?_⟩) | ((with_reducible refine gate_callee (f := 31) rfl ?_); refine goesL_ (some 20) rfl rfl Try.func31 (by kernel_rfl) rfl #[.int .i64 a1] rfl (by (try simp only [List.map_toArray, List.map_cons, List.map_nil]); first | done | rfl | (simp only [List.length_drop, List.length_take]; rfl)) ?_; (with_reducible refine (mapsheetsref01_size.calls a1 t230 _ A5.out).mono ?_); rintro e w' ⟨rfl, ⟨nd, rfl⟩⟩; refine ⟨_, rfl, ?_⟩) | ((with_reducible refine gate_callee (f := 32) rfl ?_); refine goesL_ (some 39) rfl rfl Try.func32 (by kernel_rfl) rfl #[.bool true, .int .u64 t227] rfl (by (try simp only [List.map_toArray, List.map_cons, List.map_nil]); first | done | rfl | (simp only [List.length_drop, List.length_take]; rfl)) ?_; (with_reducible refine (mapsheetsref01_signed.calls k true t227 t233 t234 _ A10.out).mono ?_); rintro e w' ⟨rfl, ⟨nd, rfl⟩⟩; refine ⟨_, rfl, ?_⟩))
     go_ret2
     exact ⟨by first | rfl | (simp; done) | (simp [*]; done), by repeat (first | exact Drawn0.refl _ | apply Drawn0.step)⟩
    ·replace c9 := Bool.eq_false_iff.mpr c9
     subst c9
     have H1 : ((mapsheetsref01_signed.f k false (IntKind.u64.wrap (t227 + 1))).bind fun bt235 => (some (bt235.1, bt235.2))) = some (r1, r2) := by rw [if_neg (show ¬ (false = true) by decide)] at H; exact H
     clear H
     have H := H1
     clear H1
     replace H := Option.bind_eq_some_iff.mp H
     obtain ⟨⟨t235, t236⟩, A110, H⟩ := H
     replace H : (some (t235, t236)) = some (r1, r2) := H
     have A11 := Aside0.mk A110
     clear A110
     simp only [Option.some.injEq, Prod.mk.injEq] at H
     obtain ⟨rfl, rfl⟩ := H
     go_enter Try.func22, Try.ntmps22
     go_wp2_with (first | ((with_reducible refine gate_callee (f := 30) rfl ?_); refine goesL_ (some 15) rfl rfl Try.func30 (by kernel_rfl) rfl #[.int .i64 a0, .int .i64 a1] rfl (by (try simp only [List.map_toArray, List.map_cons, List.map_nil]); first | done | rfl | (simp only [List.length_drop, List.length_take]; rfl)) ?_; (with_reducible refine (mapsheetsref01_parts.calls a0 a1 t227 t228 false _ A4.out).mono ?_); rintro e w' ⟨rfl, ⟨nd, rfl⟩⟩; refine ⟨_, rfl, ?_⟩) | ((with_reducible refine gate_callee (f := 31) rfl ?_); refine goesL_ (some 20) rfl rfl Try.func31 (by kernel_rfl) rfl #[.int .i64 a1] rfl (by (try simp only [List.map_toArray, List.map_cons, List.map_nil]); first | done | rfl | (simp only [List.length_drop, List.length_take]; rfl)) ?_; (with_reducible refine (mapsheetsref01_size.calls a1 t230 _ A5.out).mono ?_); rintro e w' ⟨rfl, ⟨nd, rfl⟩⟩; refine ⟨_, rfl, ?_⟩) | ((with_reducible refine gate_callee (f := 32) rfl ?_); refine goesL_ (some 39) rfl rfl Try.func32 (by kernel_rfl) rfl #[.bool false, .int .u64 (IntKind.u64.wrap (t227 + 1))] rfl (by (try simp only [List.map_toArray, List.map_cons, List.map_nil]); first | done | rfl | (simp only [List.length_drop, List.length_take]; rfl)) ?_; (with_reducible refine (mapsheetsref01_signed.calls k false (IntKind.u64.wrap (t227 + 1)) t235 t236 _ A11.out).mono ?_); rintro e w' ⟨rfl, ⟨nd, rfl⟩⟩; refine ⟨_, rfl, ?_⟩))
     go_ret2
     exact ⟨by first | rfl | (simp; done) | (simp [*]; done), by repeat (first | exact Drawn0.refl _ | apply Drawn0.step)⟩
   ·rw [if_neg c8] at H
    have c8b0 : (t228 == (IntKind.u64.wrap (t230 - t228))) = false := beq_eq_false_iff_ne.mpr c8
    have c8b1 : (t228 != (IntKind.u64.wrap (t230 - t228))) = true := bne_iff_ne.mpr c8
    replace H := Option.bind_eq_some_iff.mp H
    obtain ⟨⟨t237, t238⟩, A120, H⟩ := H
    replace H : (some (t237, t238)) = some (r1, r2) := H
    have A12 := Aside0.mk A120
    clear A120
    simp only [Option.some.injEq, Prod.mk.injEq] at H
    obtain ⟨rfl, rfl⟩ := H
    go_enter Try.func22, Try.ntmps22
    go_wp2_with (first | ((with_reducible refine gate_callee (f := 30) rfl ?_); refine goesL_ (some 15) rfl rfl Try.func30 (by kernel_rfl) rfl #[.int .i64 a0, .int .i64 a1] rfl (by (try simp only [List.map_toArray, List.map_cons, List.map_nil]); first | done | rfl | (simp only [List.length_drop, List.length_take]; rfl)) ?_; (with_reducible refine (mapsheetsref01_parts.calls a0 a1 t227 t228 t229 _ A4.out).mono ?_); rintro e w' ⟨rfl, ⟨nd, rfl⟩⟩; refine ⟨_, rfl, ?_⟩) | ((with_reducible refine gate_callee (f := 31) rfl ?_); refine goesL_ (some 20) rfl rfl Try.func31 (by kernel_rfl) rfl #[.int .i64 a1] rfl (by (try simp only [List.map_toArray, List.map_cons, List.map_nil]); first | done | rfl | (simp only [List.length_drop, List.length_take]; rfl)) ?_; (with_reducible refine (mapsheetsref01_size.calls a1 t230 _ A5.out).mono ?_); rintro e w' ⟨rfl, ⟨nd, rfl⟩⟩; refine ⟨_, rfl, ?_⟩) | ((with_reducible refine gate_callee (f := 32) rfl ?_); refine goesL_ (some 39) rfl rfl Try.func32 (by kernel_rfl) rfl #[.bool t229, .int .u64 t227] rfl (by (try simp only [List.map_toArray, List.map_cons, List.map_nil]); first | done | rfl | (simp only [List.length_drop, List.length_take]; rfl)) ?_; (with_reducible refine (mapsheetsref01_signed.calls k t229 t227 t237 t238 _ A12.out).mono ?_); rintro e w' ⟨rfl, ⟨nd, rfl⟩⟩; refine ⟨_, rfl, ?_⟩))
    go_ret2
    exact ⟨by first | rfl | (simp; done) | (simp [*]; done), by repeat (first | exact Drawn0.refl _ | apply Drawn0.step)⟩

/-! ### mapsheetsref45_size: function 23 -/
def mapsheetsref45_size.f (a0 : Int) : Option (Int) := some (mx a0 (wrap64 (-a0)))
set_option maxHeartbeats 8000000 in
set_option maxRecDepth 100000 in
theorem mapsheetsref45_size.calls (a0 : Int) (r : Int) (w : World) (h : mapsheetsref45_size.f a0 = some r) :
    Calls Try.prog 23 #[.int .i64 a0] w fun e w' => e = .returned (.int .i64 r) ∧ Below w.heap.size w w' := by
 have HB := Aside0.mk (Below.refl w.heap.size w)
 have H : (some (mx a0 (wrap64 (-a0)))) = some r := h
 clear h
 obtain ⟨ji2, hji2⟩ : ∃ j_ : Int, (mx a0 (wrap64 (-a0))) = j_ := ⟨_, rfl⟩
 replace H : (some ji2) = some r := by first | (rw [hji2] at H; exact H) | (simp only [hji2] at H ⊢; exact H)
 have hji2_ : (if a0 < (wrap64 (-a0)) then (wrap64 (-a0)) else a0) = ji2 := hji2
 obtain rfl := Option.some.inj H
 go_enter Try.func23, Try.ntmps23
 go_wp2
 go_ret
 exact ⟨by first | rfl | (simp [errW_none, errW_some] <;> rfl) | (simp only [← hji2]; first | rfl | (simp [errW_none, errW_some] <;> rfl)) | (simp [*, errW_none, errW_some] <;> rfl), by repeat (first | (with_reducible first | exact HB.out | apply below_alloc | apply pw_below_drewN | apply below_drew1) | exact HB.out)⟩

end Go.Proofs.Ytflpllnkjboidaa.PAll
