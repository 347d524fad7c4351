/- Plain lemmas on the printed functions: numbers and lists alone, no program and no memory. -/
import Derived.Test.YtflpllnkjboidaaLibGrid
import Derived.Test.YtflpllnkjboidaaLibRef01
import Derived.Test.YtflpllnkjboidaaPAllx3
import Derived.Test.YtflpllnkjboidaaPAllx4
namespace Go.Proofs.Ytflpllnkjboidaa.PAll
open Go.RowKit Go.Proofs.YtflpllnkjboidaaW.PrintWords Go.Proofs.YtflpllnkjboidaaW.PrintLast
set_option linter.unusedVariables false
/-! ### slopes and shades -/
/-- The height at a place of the grid. -/
def hgt (l : List Int) (c x y : Int) : Int := rd l (y * c + x)
def gradX (l : List Int) (c a b : Int) : Int := hgt l c (a + 1) b + hgt l c (a + 1) (b + 1) - hgt l c a b - hgt l c a (b + 1)
def gradY (l : List Int) (c a b : Int) : Int := hgt l c a (b + 1) + hgt l c (a + 1) (b + 1) - hgt l c a b - hgt l c (a + 1) b
def absI (x : Int) : Int := if x < 0 then -x else x
def shadeG (gx gy s : Int) : Int := 50 - (roundS (50 * (gx - gy)) (absI gx + absI gy + 4 * s)).1
def insideC (c r a b : Int) : Prop := (0 ≤ a ∧ a ≤ c - 2) ∧ (0 ≤ b ∧ b ≤ r - 2)
instance (c r a b : Int) : Decidable (insideC c r a b) := by unfold insideC; infer_instance
theorem mx_abs {x : Int} (h : -9223372036854775807 ≤ x ∧ x ≤ 9223372036854775807) : mx x (wrap64 (-x)) = absI x := by
  unfold mx absI; rw [w64 (by omega)]
  by_cases h0 : x < 0
  · rw [if_pos h0, if_pos (by omega)]
  · rw [if_neg h0, if_neg (by omega)]
section
set_option linter.unusedSectionVars false
variable {x y c r s : Int} {l : List Int} (hf : fits x y c r s) (hn : (l.length : Int) = c * r) (hb : hasBad l = false)
include hf hn hb
theorem hgt_range {a b : Int} (ha : 0 ≤ a ∧ a < c) (hb' : 0 ≤ b ∧ b < r) : -10000 ≤ hgt l c a b ∧ hgt l c a b ≤ 10000 := by
  have := cell_lt ha hb'
  exact hasBad_rd hb this.1 (by omega)
theorem corners_eq {a b : Int} (hi : insideC c r a b) : relief_corners.f x y c r s l a b = some (hgt l c a b, hgt l c (a + 1) b, hgt l c a (b + 1), hgt l c (a + 1) (b + 1)) := by
  obtain ⟨h1, h2⟩ := hi
  have p3 := area_le hf.2.2.1 hf.2.2.2.1
  have q1 := cell_lt (c := c) (r := r) (a := a) (b := b) (by omega) (by omega)
  have q2 := cell_lt (c := c) (r := r) (a := a + 1) (b := b + 1) (by omega) (by omega)
  have e0 : (b + 1) * c = b * c + c := by rw [Int.add_mul, Int.one_mul]
  have w1 : wrap64 (b * c) = b * c := w64 (by omega)
  have w2 : wrap64 (b * c + a) = b * c + a := w64 (by omega)
  have w3 : wrap64 (b * c + a + 1) = b * c + a + 1 := w64 (by omega)
  have w4 : wrap64 (b * c + a + c) = b * c + a + c := w64 (by omega)
  have w5 : wrap64 (b * c + a + c + 1) = b * c + a + c + 1 := w64 (by omega)
  have hc := hf.2.2.1
  unfold relief_corners.f hgt
  rw [w1, w2, w3, w4, w5, if_pos (by omega), if_pos (by omega), if_pos (by omega), if_pos (by omega), if_pos (by omega), if_pos (by omega), if_pos (by omega), if_pos (by omega)]
  rw [e0, show b * c + a + 1 = b * c + (a + 1) by omega, show b * c + a + c + 1 = b * c + c + (a + 1) by omega, show b * c + a + c = b * c + c + a by omega]
theorem grad_range {a b : Int} (hi : insideC c r a b) : (-40000 ≤ gradX l c a b ∧ gradX l c a b ≤ 40000) ∧ (-40000 ≤ gradY l c a b ∧ gradY l c a b ≤ 40000) := by
  obtain ⟨h1, h2⟩ := hi
  have t1 := hgt_range hf hn hb (a := a) (b := b) (by omega) (by omega)
  have t2 := hgt_range hf hn hb (a := a + 1) (b := b) (by omega) (by omega)
  have t3 := hgt_range hf hn hb (a := a) (b := b + 1) (by omega) (by omega)
  have t4 := hgt_range hf hn hb (a := a + 1) (b := b + 1) (by omega) (by omega)
  unfold gradX gradY
  omega
theorem cell_slope_eq {a b : Int} (hi : insideC c r a b) : relief_cell_slope.f (hgt l c a b) (hgt l c (a + 1) b) (hgt l c a (b + 1)) (hgt l c (a + 1) (b + 1)) = some (gradX l c a b, gradY l c a b) := by
  obtain ⟨h1, h2⟩ := hi
  have t1 := hgt_range hf hn hb (a := a) (b := b) (by omega) (by omega)
  have t2 := hgt_range hf hn hb (a := a + 1) (b := b) (by omega) (by omega)
  have t3 := hgt_range hf hn hb (a := a) (b := b + 1) (by omega) (by omega)
  have t4 := hgt_range hf hn hb (a := a + 1) (b := b + 1) (by omega) (by omega)
  unfold relief_cell_slope.f gradX gradY
  refine congrArg some (Prod.ext ?_ ?_)
  · show wrap64 (wrap64 (wrap64 _ - _) - _) = _
    unfold wrap64; omega
  · show wrap64 (wrap64 (wrap64 _ - _) - _) = _
    unfold wrap64; omega
end
theorem absI_nonneg (x : Int) : 0 ≤ absI x ∧ x ≤ absI x ∧ -x ≤ absI x ∧ (absI x = x ∨ absI x = -x) := by
  unfold absI; split <;> omega
/-- A shade is in range. -/
theorem round_range {gx gy s : Int} (hx : -40000 ≤ gx ∧ gx ≤ 40000) (hy : -40000 ≤ gy ∧ gy ≤ 40000) (hs : 1 ≤ s ∧ s ≤ 1048576) :
    0 < absI gx + absI gy + 4 * s ∧ -50 ≤ (roundS (50 * (gx - gy)) (absI gx + absI gy + 4 * s)).1 ∧ (roundS (50 * (gx - gy)) (absI gx + absI gy + 4 * s)).1 ≤ 50 := by
  have ax := absI_nonneg gx
  have ay := absI_nonneg gy
  have hD : 0 < absI gx + absI gy + 4 * s := by omega
  refine ⟨hD, ?_⟩
  obtain ⟨e, h1, _⟩ := flr_rst (50 * (gx - gy)) (absI gx + absI gy + 4 * s) (by omega)
  have ⟨l1, l2⟩ := h1 hD
  have key : -50 ≤ flr (50 * (gx - gy)) (absI gx + absI gy + 4 * s) ∧ flr (50 * (gx - gy)) (absI gx + absI gy + 4 * s) ≤ 49 := by
    generalize flr (50 * (gx - gy)) (absI gx + absI gy + 4 * s) = q at *
    generalize rst (50 * (gx - gy)) (absI gx + absI gy + 4 * s) = t at *
    generalize hDD : absI gx + absI gy + 4 * s = D at *
    constructor
    · refine Int.not_lt.1 fun hc => ?_
      have := Int.mul_le_mul_of_nonneg_right (show q ≤ -51 by omega) (show 0 ≤ D by omega)
      omega
    · refine Int.not_lt.1 fun hc => ?_
      have := Int.mul_le_mul_of_nonneg_right (show 50 ≤ q by omega) (show 0 ≤ D by omega)
      omega
  unfold roundS
  rw [if_neg (by omega), if_neg (by omega)]
  by_cases hu : up (50 * (gx - gy)) (absI gx + absI gy + 4 * s)
  · rw [if_pos hu]; dsimp only; omega
  · rw [if_neg hu]; dsimp only; omega
theorem shade_range {gx gy s : Int} (hx : -40000 ≤ gx ∧ gx ≤ 40000) (hy : -40000 ≤ gy ∧ gy ≤ 40000) (hs : 1 ≤ s ∧ s ≤ 1048576) : 0 ≤ shadeG gx gy s ∧ shadeG gx gy s ≤ 100 := by
  have := round_range hx hy hs
  unfold shadeG; omega
/-- Exchanging light and dark. -/
theorem shade_neg {gx gy s : Int} (hx : -40000 ≤ gx ∧ gx ≤ 40000) (hy : -40000 ≤ gy ∧ gy ≤ 40000) (hs : 1 ≤ s ∧ s ≤ 1048576) : shadeG gx gy s + shadeG (-gx) (-gy) s = 100 ∨ shadeG gx gy s + shadeG (-gx) (-gy) s = 99 := by
  have ax := absI_nonneg gx
  have ay := absI_nonneg gy
  have nx : absI (-gx) = absI gx := by unfold absI; split <;> split <;> omega
  have ny : absI (-gy) = absI gy := by unfold absI; split <;> split <;> omega
  have hD : 0 < absI gx + absI gy + 4 * s := by omega
  unfold shadeG
  rw [nx, ny, show 50 * (-gx - -gy) = -(50 * (gx - gy)) by omega]
  generalize absI gx + absI gy + 4 * s = D at *
  generalize hA : 50 * (gx - gy) = A at *
  obtain ⟨e, h1, _⟩ := flr_rst A D (by omega)
  have ⟨l1, l2⟩ := h1 hD
  have rs : ∀ B, -9000000 ≤ B ∧ B ≤ 9000000 → (roundS B D).1 = if up B D then flr B D + 1 else flr B D := by
    intro B hB
    unfold roundS
    rw [if_neg (by omega), if_neg (by omega)]
  rw [rs A (by omega), rs (-A) (by omega)]
  by_cases h0 : rst A D = 0
  · obtain ⟨f1, f2⟩ := flr_unique (a := -A) (b := D) (q := -(flr A D)) (r := 0) (by omega) (by rw [Int.neg_mul]; omega) (fun _ => by omega) (fun h => by omega)
    have u1 : ¬ up A D := fun h => h.1 h0
    have u2 : ¬ up (-A) D := fun h => h.1 f2.symm
    rw [if_neg u1, if_neg u2, ← f1]; omega
  · obtain ⟨f1, f2⟩ := flr_unique (a := -A) (b := D) (q := -(flr A D) - 1) (r := D - rst A D) (by omega) (by rw [Int.sub_mul, Int.neg_mul]; omega) (fun _ => by omega) (fun h => by omega)
    have ua : up A D ↔ (rst A D ≠ 0 ∧ (D.natAbs : Int) ≤ 2 * ((rst A D).natAbs : Int)) := Iff.rfl
    have ub : up (-A) D ↔ (rst (-A) D ≠ 0 ∧ (D.natAbs : Int) ≤ 2 * ((rst (-A) D).natAbs : Int)) := Iff.rfl
    by_cases u1 : up A D <;> by_cases u2 : up (-A) D
    · rw [if_pos u1, if_pos u2]; omega
    · rw [if_pos u1, if_neg u2]; omega
    · rw [if_neg u1, if_pos u2]; omega
    · rw [if_neg u1, if_neg u2]
      have c1 : ¬ (rst A D ≠ 0 ∧ (D.natAbs : Int) ≤ 2 * ((rst A D).natAbs : Int)) := fun h => u1 (ua.2 h)
      have c2 : ¬ (rst (-A) D ≠ 0 ∧ (D.natAbs : Int) ≤ 2 * ((rst (-A) D).natAbs : Int)) := fun h => u2 (ub.2 h)
      omega
/-- A grid that is reflected at the direction of the light. -/
theorem shade_mirror (gx gy s : Int) : shadeG (-gy) (-gx) s = shadeG gx gy s := by
  have nx : absI (-gx) = absI gx := by unfold absI; split <;> split <;> omega
  have ny : absI (-gy) = absI gy := by unfold absI; split <;> split <;> omega
  unfold shadeG
  rw [nx, ny, show 50 * (-gy - -gx) = 50 * (gx - gy) by omega, show absI gy + absI gx + 4 * s = absI gx + absI gy + 4 * s by omega]
end Go.Proofs.Ytflpllnkjboidaa.PAll
