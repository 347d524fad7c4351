-- Written by this session's own program wip/ext.py over the kit's print; not the kit's own print.
import Derived.Test.YtngiipodkbfokaaPAllx0
namespace Go.Proofs.Ytngiipodkbfokaa.PAll
open Go.RowKit Go.Proofs.YtngiipodkbfokaaW.PrintWords Go.Proofs.YtngiipodkbfokaaW.PrintLast Go.Proofs.YtngiipodkbfokaaW.PrintMore
attribute [local go_sem] max2_int min2_int max_two min_two max_three min_three max_four min_four   -- for this text's walks alone
set_option linter.unusedVariables false
set_option linter.unusedSimpArgs false

/-! ### mapsheetsref01_product: function 38 -/
mutual
def mapsheetsref01_product.l0 : Nat → Int → Int → Int → Int → Int → Int → Option (Int × Int × Bool)
  | 0, _, _, _, _, _, _ => none
  | k + 1, x0, x1, x2, x9, x10, x11 => if x11 ≥ 0 then (if x9 > 4611686018427387904 then (some (0, 0, false)) else (if (IntKind.u64.wrap (2 * x10)) ≥ x2 then (mapsheetsref01_product.j1 k x0 x1 x2 (IntKind.u64.wrap ((IntKind.u64.wrap (2 * x9)) + 1)) (IntKind.u64.wrap ((IntKind.u64.wrap (2 * x10)) - x2)) x11) else (mapsheetsref01_product.j1 k x0 x1 x2 (IntKind.u64.wrap (2 * x9)) (IntKind.u64.wrap (2 * x10)) x11))) else (some (x9, x10, true))
def mapsheetsref01_product.j1 : Nat → Int → Int → Int → Int → Int → Int → Option (Int × Int × Bool)
  | 0, _, _, _, _, _, _ => none
  | k + 1, x0, x1, x2, x9, x10, x11 => if 0 ≤ (IntKind.u64.wrap (x11)) then (if (Go.bits .and .u64 (shr .u64 x0 (IntKind.u64.wrap (x11))) 1) = 0 then (mapsheetsref01_product.l0 k x0 x1 x2 x9 x10 (wrap64 (x11 - 1))) else (if x9 > 9223372036854775808 then (mapsheetsref01_product.j2 k x0 x1 x2 x9 x10 x11 true) else (if x2 = 0 then (none) else (mapsheetsref01_product.j2 k x0 x1 x2 x9 x10 x11 (decide ((IntKind.u64.wrap (Int.tdiv x1 x2)) > (IntKind.u64.wrap (9223372036854775808 - x9)))))))) else (none)
def mapsheetsref01_product.j2 : Nat → Int → Int → Int → Int → Int → Int → Bool → Option (Int × Int × Bool)
  | 0, _, _, _, _, _, _, _ => none
  | k + 1, x0, x1, x2, x9, x10, x11, x45 => if x45 = true then (some (0, 0, false)) else (if x2 = 0 then (none) else (if (IntKind.u64.wrap (x10 + (Int.tmod x1 x2))) ≥ x2 then (mapsheetsref01_product.l0 k x0 x1 x2 (IntKind.u64.wrap ((IntKind.u64.wrap (x9 + (IntKind.u64.wrap (Int.tdiv x1 x2)))) + 1)) (IntKind.u64.wrap ((IntKind.u64.wrap (x10 + (Int.tmod x1 x2))) - x2)) (wrap64 (x11 - 1))) else (mapsheetsref01_product.l0 k x0 x1 x2 (IntKind.u64.wrap (x9 + (IntKind.u64.wrap (Int.tdiv x1 x2)))) (IntKind.u64.wrap (x10 + (Int.tmod x1 x2))) (wrap64 (x11 - 1)))))
end
def mapsheetsref01_product.f (k : Nat) (a0 : Int) (a1 : Int) (a2 : Int) : Option (Int × Int × Bool) := mapsheetsref01_product.l0 k a0 a1 a2 0 0 63
theorem mapsheetsref01_product.mono_l : ∀ k, (∀ y0 y1 y2 y3 y4 y5, LeO (mapsheetsref01_product.l0 k y0 y1 y2 y3 y4 y5) (mapsheetsref01_product.l0 (k + 1) y0 y1 y2 y3 y4 y5)) ∧ (∀ y0 y1 y2 y3 y4 y5, LeO (mapsheetsref01_product.j1 k y0 y1 y2 y3 y4 y5) (mapsheetsref01_product.j1 (k + 1) y0 y1 y2 y3 y4 y5)) ∧ (∀ y0 y1 y2 y3 y4 y5 y6, LeO (mapsheetsref01_product.j2 k y0 y1 y2 y3 y4 y5 y6) (mapsheetsref01_product.j2 (k + 1) y0 y1 y2 y3 y4 y5 y6))
  | 0 => ⟨fun _ _ _ _ _ _ r h => by simp [mapsheetsref01_product.l0] at h, fun _ _ _ _ _ _ r h => by simp [mapsheetsref01_product.j1] at h, fun _ _ _ _ _ _ _ r h => by simp [mapsheetsref01_product.j2] at h⟩
  | k + 1 => by
    obtain ⟨ih0, ih1, ih2⟩ := mapsheetsref01_product.mono_l k
    refine ⟨?_, ?_, ?_⟩
    · intro y0 y1 y2 y3 y4 y5
      unfold mapsheetsref01_product.l0
      repeat' first
      | (with_reducible exact ih0 _ _ _ _ _ _)
      | (with_reducible exact ih1 _ _ _ _ _ _)
      | (with_reducible exact ih2 _ _ _ _ _ _ _)
      | (with_reducible exact LeO.refl _)
      | (with_reducible exact LeO.none _)
      | (with_reducible refine LeO.ite ?_ ?_)
      | (with_reducible refine LeO.bind ?_ (fun _ => ?_))
      | exact ih0 _ _ _ _ _ _
      | exact ih1 _ _ _ _ _ _
      | exact ih2 _ _ _ _ _ _ _
      | exact LeO.none _
      | refine LeO.ite ?_ ?_
      | refine LeO.bind ?_ (fun _ => ?_)
    · intro y0 y1 y2 y3 y4 y5
      unfold mapsheetsref01_product.j1
      repeat' first
      | (with_reducible exact ih0 _ _ _ _ _ _)
      | (with_reducible exact ih1 _ _ _ _ _ _)
      | (with_reducible exact ih2 _ _ _ _ _ _ _)
      | (with_reducible exact LeO.refl _)
      | (with_reducible exact LeO.none _)
      | (with_reducible refine LeO.ite ?_ ?_)
      | (with_reducible refine LeO.bind ?_ (fun _ => ?_))
      | exact ih0 _ _ _ _ _ _
      | exact ih1 _ _ _ _ _ _
      | exact ih2 _ _ _ _ _ _ _
      | exact LeO.none _
      | refine LeO.ite ?_ ?_
      | refine LeO.bind ?_ (fun _ => ?_)
    · intro y0 y1 y2 y3 y4 y5 y6
      unfold mapsheetsref01_product.j2
      repeat' first
      | (with_reducible exact ih0 _ _ _ _ _ _)
      | (with_reducible exact ih1 _ _ _ _ _ _)
      | (with_reducible exact ih2 _ _ _ _ _ _ _)
      | (with_reducible exact LeO.refl _)
      | (with_reducible exact LeO.none _)
      | (with_reducible refine LeO.ite ?_ ?_)
      | (with_reducible refine LeO.bind ?_ (fun _ => ?_))
      | exact ih0 _ _ _ _ _ _
      | exact ih1 _ _ _ _ _ _
      | exact ih2 _ _ _ _ _ _ _
      | exact LeO.none _
      | refine LeO.ite ?_ ?_
      | refine LeO.bind ?_ (fun _ => ?_)
theorem mapsheetsref01_product.mono : ∀ a0 a1 a2 k, LeO (mapsheetsref01_product.f k a0 a1 a2) (mapsheetsref01_product.f (k + 1) a0 a1 a2) := by
  intro a0 a1 a2 k
  obtain ⟨ih0, ih1, ih2⟩ := mapsheetsref01_product.mono_l k
  unfold mapsheetsref01_product.f
  repeat' first
      | (with_reducible exact ih0 _ _ _ _ _ _)
      | (with_reducible exact ih1 _ _ _ _ _ _)
      | (with_reducible exact ih2 _ _ _ _ _ _ _)
      | (with_reducible exact LeO.refl _)
      | (with_reducible exact LeO.none _)
      | (with_reducible refine LeO.ite ?_ ?_)
      | (with_reducible refine LeO.bind ?_ (fun _ => ?_))
      | exact ih0 _ _ _ _ _ _
      | exact ih1 _ _ _ _ _ _
      | exact ih2 _ _ _ _ _ _ _
      | exact LeO.none _
      | refine LeO.ite ?_ ?_
      | refine LeO.bind ?_ (fun _ => ?_)
set_option maxHeartbeats 8000000 in
set_option maxRecDepth 100000 in
theorem mapsheetsref01_product.calls (k : Nat) (a0 : Int) (a1 : Int) (a2 : Int) (r1 : Int) (r2 : Int) (r3 : Bool) (w : World) (h : mapsheetsref01_product.f k a0 a1 a2 = some (r1, r2, r3)) :
    Calls Try.prog 38 #[.int .u64 a0, .int .u64 a1, .int .u64 a2] w fun e w' => e = .returned (.tuple #[.int .u64 r1, .int .u64 r2, .bool r3]) ∧ Drawn0 w w' := by
 have H : (mapsheetsref01_product.l0 k a0 a1 a2 0 0 63) = some (r1, r2, r3) := h
 clear h
 have H' := Aside0.mk H
 clear H
 go_enter Try.func38, Try.ntmps38
 go_wp2
 repeat (go_quiet (fail); try go_wp2)
 go_loopg [9, 10, 11] k (fun kq v9 v10 v11 w' => ∃ (x9_1 : Int) (x10_1 : Int) (x11_1 : Int), v9 = .int .u64 x9_1 ∧ v10 = .int .u64 x10_1 ∧ v11 = .int .i64 x11_1 ∧ Aside0 (mapsheetsref01_product.l0 kq a0 a1 a2 x9_1 x10_1 x11_1 = some (r1, r2, r3)) ∧ Aside0 (kq ≤ k) ∧ Drawn0 w w')
 case atStart => exact ⟨(0), (0), (63), (by first | rfl | (simp; done) | (simp [*]; done)), (by first | rfl | (simp; done) | (simp [*]; done)), (by first | rfl | (simp; done) | (simp [*]; done)), H', ⟨Nat.le_refl _⟩, by repeat (first | exact Drawn0.refl _ | apply Drawn0.step)⟩
 case round =>
  clear H'
  try clear p2
  try clear c3
  obtain ⟨x9_1, x10_1, x11_1, rfl, rfl, rfl, HA, HK1, ⟨m1, rfl⟩⟩ := hrel
  cases gk with
  | zero => exact absurd HA.out (by simp [mapsheetsref01_product.l0])
  | succ k1 =>
   have H := HA.out
   clear HA
   simp only [mapsheetsref01_product.l0] at H
   by_cases c4 : x11_1 ≥ 0
   ·rw [if_pos c4] at H
    have c4b0 : decide (0 ≤ x11_1) = true := decide_eq_true c4
    clear c4
    by_cases c5 : x9_1 > 4611686018427387904
    ·rw [if_pos c5] at H
     have c5b0 : decide (4611686018427387904 < x9_1) = true := decide_eq_true c5
     clear c5
     simp only [Option.some.injEq, Prod.mk.injEq] at H
     obtain ⟨rfl, rfl, rfl⟩ := H
     go_wp2
     repeat (go_quiet (fail); try go_wp2)
     go_ret3
     exact ⟨by first | rfl | (simp; done) | (simp [*]; done), by repeat (first | exact Drawn0.refl _ | apply Drawn0.step)⟩
    ·rw [if_neg c5] at H
     have c5b0 : decide (4611686018427387904 < x9_1) = false := decide_eq_false c5
     clear c5
     have HC6 := Aside0.mk H
     clear H
     go_upto_if 24 with (fail)
     repeat (go_quiet (fail); go_upto_if 24 with (fail))
     go_cut [9, 10] (fun v9 v10 wc => ∃ (kq : Nat) (x9_5 : Int) (x10_5 : Int), v9 = .int .u64 x9_5 ∧ v10 = .int .u64 x10_5 ∧ Aside0 (mapsheetsref01_product.j1 kq a0 a1 a2 x9_5 x10_5 x11_1 = some (r1, r2, r3)) ∧ Aside0 (kq ≤ k1) ∧ Drawn0 w wc)
     case first =>
      have H := HC6.out
      clear HC6
      by_cases c7 : (IntKind.u64.wrap (2 * x10_1)) ≥ a2
      ·rw [if_pos c7] at H
       have c7b0 : decide (a2 ≤ (IntKind.u64.wrap (2 * x10_1))) = true := decide_eq_true c7
       clear c7
       (first | rw [c7b0] | (simp only [i64_w, i32_w]; rw [c7b0]) | skip)
       have H' := Aside0.mk H
       clear H
       go_wp2
       repeat (go_quiet (fail); try go_wp2)
       go_meet
       case rel => exact ⟨_, (IntKind.u64.wrap ((IntKind.u64.wrap (2 * x9_1)) + 1)), (IntKind.u64.wrap ((IntKind.u64.wrap (2 * x10_1)) - a2)), (by first | rfl | (simp; done) | (simp [*]; done)), (by first | rfl | (simp; done) | (simp [*]; done)), H', ⟨by have := HK1.out; first | omega | exact Nat.le_refl _⟩, by repeat (first | exact Drawn0.refl _ | apply Drawn0.step)⟩
      ·rw [if_neg c7] at H
       have c7b0 : decide (a2 ≤ (IntKind.u64.wrap (2 * x10_1))) = false := decide_eq_false c7
       clear c7
       (first | rw [c7b0] | (simp only [i64_w, i32_w]; rw [c7b0]) | skip)
       have H' := Aside0.mk H
       clear H
       go_wp2
       repeat (go_quiet (fail); try go_wp2)
       go_meet
       case rel => exact ⟨_, (IntKind.u64.wrap (2 * x9_1)), (IntKind.u64.wrap (2 * x10_1)), (by first | rfl | (simp; done) | (simp [*]; done)), (by first | rfl | (simp; done) | (simp [*]; done)), H', ⟨by have := HK1.out; first | omega | exact Nat.le_refl _⟩, by repeat (first | exact Drawn0.refl _ | apply Drawn0.step)⟩
     case rest =>
      clear HC6
      try clear p2
      try clear c3
      try clear c4
      try clear c4b0
      try clear c5
      try clear c5b0
      try clear c7
      try clear c7b0
      try clear p2
      obtain ⟨kq, x9_5, x10_5, rfl, rfl, HA, HJ5, ⟨mc5, rfl⟩⟩ := hcut
      cases kq with
      | zero => exact absurd HA.out (by simp [mapsheetsref01_product.j1])
      | succ kj5 =>
       have H := HA.out
       clear HA
       simp only [mapsheetsref01_product.j1] at H
       obtain ⟨ji8, hji8⟩ : ∃ j_ : Int, (IntKind.u64.wrap (x11_1)) = j_ := ⟨_, rfl⟩
       replace H : (if 0 ≤ (ji8) then (if (Go.bits .and .u64 (shr .u64 a0 (ji8)) 1) = 0 then (mapsheetsref01_product.l0 kj5 a0 a1 a2 x9_5 x10_5 (wrap64 (x11_1 - 1))) else (if x9_5 > 9223372036854775808 then (mapsheetsref01_product.j2 kj5 a0 a1 a2 x9_5 x10_5 x11_1 true) else (if a2 = 0 then (none) else (mapsheetsref01_product.j2 kj5 a0 a1 a2 x9_5 x10_5 x11_1 (decide ((IntKind.u64.wrap (Int.tdiv a1 a2)) > (IntKind.u64.wrap (9223372036854775808 - x9_5)))))))) else (none)) = some (r1, r2, r3) := by first | (rw [hji8] at H; exact H) | (simp only [hji8] at H ⊢; exact H)
       by_cases c9 : 0 ≤ (ji8)
       ·rw [if_pos c9] at H
        have c9b0 := eq_true c9
        have c9b1 : decide (0 ≤ (ji8)) = true := decide_eq_true c9
        clear c9
        obtain ⟨ji10, hji10⟩ : ∃ j_ : Int, (shr .u64 a0 (ji8)) = j_ := ⟨_, rfl⟩
        replace H : (if (Go.bits .and .u64 (ji10) 1) = 0 then (mapsheetsref01_product.l0 kj5 a0 a1 a2 x9_5 x10_5 (wrap64 (x11_1 - 1))) else (if x9_5 > 9223372036854775808 then (mapsheetsref01_product.j2 kj5 a0 a1 a2 x9_5 x10_5 x11_1 true) else (if a2 = 0 then (none) else (mapsheetsref01_product.j2 kj5 a0 a1 a2 x9_5 x10_5 x11_1 (decide ((IntKind.u64.wrap (Int.tdiv a1 a2)) > (IntKind.u64.wrap (9223372036854775808 - x9_5)))))))) = some (r1, r2, r3) := by first | (rw [hji10] at H; exact H) | (simp only [hji10] at H ⊢; exact H)
        have hji10_ : (a0 / 2 ^ min (ji8).toNat 64) = ji10 := hji10
        have hji10z : (ji8) ≤ 64 → (a0 / 2 ^ (ji8).toNat) = ji10 := shr_small hji10
        by_cases c11 : (Go.bits .and .u64 (ji10) 1) = 0
        ·rw [if_pos c11] at H
         have c11b0 : ((Go.bits .and .u64 (ji10) 1) == 0) = true := beq_iff_eq.mpr c11
         have c11b1 : ((Go.bits .and .u64 (ji10) 1) != 0) = false := bne_eq_false_iff_eq.mpr c11
         clear c11
         have H' := Aside0.mk H
         clear H
         go_wp2
         repeat (go_quiet (fail); try go_wp2)
         go_roundg kj5
         case measure => have := HK1.out; have := HJ5.out; omega
         case rel => exact ⟨(x9_5), (x10_5), (wrap64 (x11_1 - 1)), (by first | rfl | (simp; done) | (simp [*]; done)), (by first | rfl | (simp; done) | (simp [*]; done)), (by first | rfl | (simp; done) | (simp [*]; done)), H', ⟨by have := HK1.out; have := HJ5.out; omega⟩, by repeat (first | exact Drawn0.refl _ | apply Drawn0.step)⟩
        ·rw [if_neg c11] at H
         have c11b0 : ((Go.bits .and .u64 (ji10) 1) == 0) = false := beq_eq_false_iff_ne.mpr c11
         have c11b1 : ((Go.bits .and .u64 (ji10) 1) != 0) = true := bne_iff_ne.mpr c11
         have HC12 := Aside0.mk H
         clear H
         go_upto_region 11 with (fail)
         repeat (go_quiet (fail); go_upto_region 11 with (fail))
         go_cut [45] (fun v45 wc => ∃ (kq : Nat) (x45_11 : Bool), v45 = .bool x45_11 ∧ Aside0 (mapsheetsref01_product.j2 kq a0 a1 a2 x9_5 x10_5 x11_1 x45_11 = some (r1, r2, r3)) ∧ Aside0 (kq ≤ kj5) ∧ Drawn0 w wc)
         case first =>
          have H := HC12.out
          clear HC12
          by_cases c13 : x9_5 > 9223372036854775808
          ·rw [if_pos c13] at H
           have c13b0 : decide (9223372036854775808 < x9_5) = true := decide_eq_true c13
           clear c13
           (first | rw [c13b0] | (simp only [i64_w, i32_w]; rw [c13b0]) | skip)
           have H' := Aside0.mk H
           clear H
           go_wp2
           repeat (go_quiet (fail); try go_wp2)
           go_meet
           case rel => exact ⟨_, (true), (by first | rfl | (simp; done) | (simp [*]; done)), H', ⟨by have := HK1.out; have := HJ5.out; first | omega | exact Nat.le_refl _⟩, by repeat (first | exact Drawn0.refl _ | apply Drawn0.step)⟩
          ·rw [if_neg c13] at H
           have c13b0 : decide (9223372036854775808 < x9_5) = false := decide_eq_false c13
           clear c13
           (first | rw [c13b0] | (simp only [i64_w, i32_w]; rw [c13b0]) | skip)
           by_cases c14 : a2 = 0
           ·rw [if_pos c14] at H
            exact absurd H (by simp)
           ·rw [if_neg c14] at H
            have c14b0 : (a2 == 0) = false := beq_eq_false_iff_ne.mpr c14
            have c14b1 : (a2 != 0) = true := bne_iff_ne.mpr c14
            have H' := Aside0.mk H
            clear H
            go_wp2
            repeat (go_quiet (fail); try go_wp2)
            go_meet
            case rel => exact ⟨_, (decide ((IntKind.u64.wrap (Int.tdiv a1 a2)) > (IntKind.u64.wrap (9223372036854775808 - x9_5)))), (by first | rfl | (simp; done) | (simp [*]; done)), H', ⟨by have := HK1.out; have := HJ5.out; first | omega | exact Nat.le_refl _⟩, by repeat (first | exact Drawn0.refl _ | apply Drawn0.step)⟩
         case rest =>
          clear HC12
          try clear c1
          try clear p2
          try clear c3
          try clear c4
          try clear c4b0
          try clear c5
          try clear c5b0
          try clear p6
          try clear c7
          try clear c7b0
          try clear c9
          try clear c9b0
          try clear c9b1
          try clear c11
          try clear c11b0
          try clear c11b1
          try clear c13
          try clear c13b0
          try clear c14
          try clear c14b0
          try clear c14b1
          try clear p2
          obtain ⟨kq, x45_11, rfl, HA, HJ11, ⟨mc11, rfl⟩⟩ := hcut
          cases kq with
          | zero => exact absurd HA.out (by simp [mapsheetsref01_product.j2])
          | succ kj11 =>
           have H := HA.out
           clear HA
           simp only [mapsheetsref01_product.j2] at H
           by_cases c15 : x45_11 = true
           ·subst c15
            have H1 : (some (0, 0, false)) = some (r1, r2, r3) := by rw [if_pos rfl] at H; exact H
            clear H
            have H := H1
            clear H1
            simp only [Option.some.injEq, Prod.mk.injEq] at H
            obtain ⟨rfl, rfl, rfl⟩ := H
            go_wp2
            repeat (go_quiet (fail); try go_wp2)
            go_ret3
            exact ⟨by first | rfl | (simp; done) | (simp only [← hji8, ← hji10] <;> (first | rfl | simp)) | (simp [*]; done), by repeat (first | exact Drawn0.refl _ | apply Drawn0.step)⟩
           ·replace c15 := Bool.eq_false_iff.mpr c15
            subst c15
            have H1 : (if a2 = 0 then (none) else (if (IntKind.u64.wrap (x10_5 + (Int.tmod a1 a2))) ≥ a2 then (mapsheetsref01_product.l0 kj11 a0 a1 a2 (IntKind.u64.wrap ((IntKind.u64.wrap (x9_5 + (IntKind.u64.wrap (Int.tdiv a1 a2)))) + 1)) (IntKind.u64.wrap ((IntKind.u64.wrap (x10_5 + (Int.tmod a1 a2))) - a2)) (wrap64 (x11_1 - 1))) else (mapsheetsref01_product.l0 kj11 a0 a1 a2 (IntKind.u64.wrap (x9_5 + (IntKind.u64.wrap (Int.tdiv a1 a2)))) (IntKind.u64.wrap (x10_5 + (Int.tmod a1 a2))) (wrap64 (x11_1 - 1))))) = some (r1, r2, r3) := by rw [if_neg (show ¬ (false = true) by decide)] at H; exact H
            clear H
            have H := H1
            clear H1
            by_cases c16 : a2 = 0
            ·rw [if_pos c16] at H
             exact absurd H (by simp)
            ·rw [if_neg c16] at H
             have c16b0 : (a2 == 0) = false := beq_eq_false_iff_ne.mpr c16
             have c16b1 : (a2 != 0) = true := bne_iff_ne.mpr c16
             by_cases c17 : (IntKind.u64.wrap (x10_5 + (Int.tmod a1 a2))) ≥ a2
             ·rw [if_pos c17] at H
              have c17b0 : decide (a2 ≤ (IntKind.u64.wrap (x10_5 + (Int.tmod a1 a2)))) = true := decide_eq_true c17
              clear c17
              have H' := Aside0.mk H
              clear H
              go_wp2
              repeat (go_quiet (fail); try go_wp2)
              go_roundg kj11
              case measure => have := HK1.out; have := HJ5.out; have := HJ11.out; omega
              case rel => exact ⟨(IntKind.u64.wrap ((IntKind.u64.wrap (x9_5 + (IntKind.u64.wrap (Int.tdiv a1 a2)))) + 1)), (IntKind.u64.wrap ((IntKind.u64.wrap (x10_5 + (Int.tmod a1 a2))) - a2)), (wrap64 (x11_1 - 1)), (by first | rfl | (simp; done) | (simp [*]; done)), (by first | rfl | (simp; done) | (simp [*]; done)), (by first | rfl | (simp; done) | (simp [*]; done)), H', ⟨by have := HK1.out; have := HJ5.out; have := HJ11.out; omega⟩, by repeat (first | exact Drawn0.refl _ | apply Drawn0.step)⟩
             ·rw [if_neg c17] at H
              have c17b0 : decide (a2 ≤ (IntKind.u64.wrap (x10_5 + (Int.tmod a1 a2)))) = false := decide_eq_false c17
              clear c17
              have H' := Aside0.mk H
              clear H
              go_wp2
              repeat (go_quiet (fail); try go_wp2)
              go_roundg kj11
              case measure => have := HK1.out; have := HJ5.out; have := HJ11.out; omega
              case rel => exact ⟨(IntKind.u64.wrap (x9_5 + (IntKind.u64.wrap (Int.tdiv a1 a2)))), (IntKind.u64.wrap (x10_5 + (Int.tmod a1 a2))), (wrap64 (x11_1 - 1)), (by first | rfl | (simp; done) | (simp [*]; done)), (by first | rfl | (simp; done) | (simp [*]; done)), (by first | rfl | (simp; done) | (simp [*]; done)), H', ⟨by have := HK1.out; have := HJ5.out; have := HJ11.out; omega⟩, by repeat (first | exact Drawn0.refl _ | apply Drawn0.step)⟩
       ·rw [if_neg c9] at H
        exact absurd H (by simp)
   ·rw [if_neg c4] at H
    have c4b0 : decide (0 ≤ x11_1) = false := decide_eq_false c4
    clear c4
    simp only [Option.some.injEq, Prod.mk.injEq] at H
    obtain ⟨rfl, rfl, rfl⟩ := H
    go_wp2
    repeat (go_quiet (fail); try go_wp2)
    go_ret3
    exact ⟨by first | rfl | (simp; done) | (simp [*]; done), by repeat (first | exact Drawn0.refl _ | apply Drawn0.step)⟩

end Go.Proofs.Ytngiipodkbfokaa.PAll
