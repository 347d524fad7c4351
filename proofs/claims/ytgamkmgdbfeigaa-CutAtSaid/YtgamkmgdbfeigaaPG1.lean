/- Plane geometry in plain numbers: near points, where nothing overflows. -/
import Derived.Test.YtgamkmgdbfeigaaTB2
namespace Go.Proofs.YtgamkmgdbfeigaaM
open Go Go.RowKit
set_option linter.unusedSimpArgs false
theorem mulB {x y : Int} {A B : Nat} (hx : x.natAbs ≤ A) (hy : y.natAbs ≤ B) : (x * y).natAbs ≤ A * B := by
  rw [Int.natAbs_mul]; exact Nat.mul_le_mul hx hy
theorem sgnM (x y : Int) : (0 < x ∧ 0 < y → 0 < x * y) ∧ (x < 0 ∧ y < 0 → 0 < x * y) ∧ (0 < x ∧ y < 0 → x * y < 0) ∧ (x < 0 ∧ 0 < y → x * y < 0) ∧ (x = 0 → x * y = 0) ∧ (y = 0 → x * y = 0) := by
  refine ⟨fun h => Int.mul_pos h.1 h.2, fun h => Int.mul_pos_of_neg_of_neg h.1 h.2, fun h => Int.mul_neg_of_pos_of_neg h.1 h.2, fun h => Int.mul_neg_of_neg_of_pos h.1 h.2, fun h => by rw [h]; simp, fun h => by rw [h]; simp⟩
def Nr (a b : Int) : Prop := -2097152 ≤ a ∧ a ≤ 2097152 ∧ -2097152 ≤ b ∧ b ≤ 2097152
theorem nr_iff (a b : Int) : nr a b = true ↔ Nr a b := by
  simp only [nr, far, Nr, Bool.not_eq_true', Bool.or_eq_false_iff, decide_eq_false_iff_not]; omega
theorem nr_true {a b : Int} (h : Nr a b) : nr a b = true := (nr_iff a b).2 h
/-- A number that is small enough for all that is made of it. -/
def Sm (x : Int) : Prop := x.natAbs ≤ 4194304
theorem Nr.d {a b c d : Int} (h : Nr a b) (h' : Nr c d) : Sm (a - c) ∧ Sm (b - d) ∧ W (a - c) = a - c ∧ W (b - d) = b - d := by
  unfold Nr at h h'
  unfold Sm
  exact ⟨by omega, by omega, w64 (by omega) (by omega), w64 (by omega) (by omega)⟩
theorem Sm.mul {x y : Int} (h : Sm x) (h' : Sm y) : (x * y).natAbs ≤ 17592186044416 := mulB h h'
theorem Sm.cr {x y z w : Int} (hx : Sm x) (hy : Sm y) (hz : Sm z) (hw : Sm w) : W (W (x * y) - W (z * w)) = x * y - z * w ∧ (x * y - z * w).natAbs ≤ 35184372088832 := by
  have h1 := hx.mul hy
  have h2 := hz.mul hw
  generalize x * y = p at *
  generalize z * w = q at *
  have e1 : W p = p := w64 (by omega) (by omega)
  have e2 : W q = q := w64 (by omega) (by omega)
  rw [e1, e2]
  exact ⟨w64 (by omega) (by omega), by omega⟩
theorem Sm.dt {x y z w : Int} (hx : Sm x) (hy : Sm y) (hz : Sm z) (hw : Sm w) : W (W (x * y) + W (z * w)) = x * y + z * w ∧ (x * y + z * w).natAbs ≤ 35184372088832 := by
  have h1 := hx.mul hy
  have h2 := hz.mul hw
  generalize x * y = p at *
  generalize z * w = q at *
  have e1 : W p = p := w64 (by omega) (by omega)
  have e2 : W q = q := w64 (by omega) (by omega)
  rw [e1, e2]
  exact ⟨w64 (by omega) (by omega), by omega⟩
theorem xr_eq {a b c d e f g h : Int} (h1 : Nr a b) (h2 : Nr c d) (h3 : Nr e f) (h4 : Nr g h) : xr a b c d e f g h = (c - a) * (h - f) - (d - b) * (g - e) ∧ ((c - a) * (h - f) - (d - b) * (g - e)).natAbs ≤ 35184372088832 := by
  obtain ⟨s1, s2, w1, w2⟩ := h2.d h1
  obtain ⟨s3, s4, w3, w4⟩ := h4.d h3
  unfold xr
  rw [w1, w2, w3, w4]
  exact Sm.cr s1 s4 s2 s3
theorem dr_eq {a b c d e f g h : Int} (h1 : Nr a b) (h2 : Nr c d) (h3 : Nr e f) (h4 : Nr g h) : dr a b c d e f g h = (c - a) * (g - e) + (d - b) * (h - f) ∧ ((c - a) * (g - e) + (d - b) * (h - f)).natAbs ≤ 35184372088832 := by
  obtain ⟨s1, s2, w1, w2⟩ := h2.d h1
  obtain ⟨s3, s4, w3, w4⟩ := h4.d h3
  unfold dr
  rw [w1, w2, w3, w4]
  exact Sm.dt s1 s3 s2 s4
/-- Twice the area of a triangle. -/
def cr (a b c d e f : Int) : Int := (c - a) * (f - b) - (d - b) * (e - a)
/-- The scalar product of the ways from a point to two others. -/
def dt (a b c d e f : Int) : Int := (a - e) * (c - e) + (b - f) * (d - f)
theorem tw_eq {a b c d e f : Int} (h1 : Nr a b) (h2 : Nr c d) (h3 : Nr e f) : tw a b c d e f = cr a b c d e f := by
  obtain ⟨s1, s2, w1, w2⟩ := h2.d h1
  obtain ⟨s3, s4, w3, w4⟩ := h3.d h1
  unfold tw
  rw [w1, w2, w3, w4]
  exact (Sm.cr s1 s4 s2 s3).1
theorem cr_le {a b c d e f : Int} (h1 : Nr a b) (h2 : Nr c d) (h3 : Nr e f) : (cr a b c d e f).natAbs ≤ 35184372088832 := by
  obtain ⟨s1, s2, w1, w2⟩ := h2.d h1
  obtain ⟨s3, s4, w3, w4⟩ := h3.d h1
  exact (Sm.cr s1 s4 s2 s3).2
theorem nr3_true {a b c d e f : Int} (h1 : Nr a b) (h2 : Nr c d) (h3 : Nr e f) : nr3 a b c d e f = true := by
  unfold nr3; rw [nr_true h1, nr_true h2, nr_true h3]; rfl
theorem nr3_iff (a b c d e f : Int) : nr3 a b c d e f = true ↔ Nr a b ∧ Nr c d ∧ Nr e f := by
  unfold nr3; rw [Bool.and_eq_true, Bool.and_eq_true, nr_iff, nr_iff, nr_iff]
theorem twn_eq {a b c d e f : Int} (h1 : Nr a b) (h2 : Nr c d) (h3 : Nr e f) : twn a b c d e f = cr a b c d e f := by
  unfold twn; rw [if_pos (nr3_true h1 h2 h3), tw_eq h1 h2 h3]
theorem on_eq {a b c d e f : Int} (h1 : Nr a b) (h2 : Nr c d) (h3 : Nr e f) : on a b c d e f = (cr a b c d e f == 0 && decide (dt a b c d e f ≤ 0)) := by
  have ht := tw_eq h1 h2 h3
  unfold tw at ht
  obtain ⟨s1, s2, w1, w2⟩ := h1.d h3
  obtain ⟨s3, s4, w3, w4⟩ := h2.d h3
  unfold on
  rw [ht, w1, w2, w3, w4, (Sm.dt s1 s3 s2 s4).1]
  rfl
/-! ### Twice, Side and On -/
theorem twn_rtw (a b c d e f : Int) : twn a b c d e f = rtw a b c d e f := by
  unfold twn rtw
  by_cases h : nr3 a b c d e f = true
  · obtain ⟨h1, h2, h3⟩ := (nr3_iff ..).1 h
    rw [if_pos h, show (nr a b && (nr c d && nr e f)) = true from h, tw_eq h1 h2 h3, (xr_eq h1 h2 h1 h3).1]
    rfl
  · rw [if_neg h, show (nr a b && (nr c d && nr e f)) = false from Bool.eq_false_iff.2 h]
    rfl
theorem on_ron (a b c d e f : Int) : (nr3 a b c d e f && on a b c d e f) = ((nr a b && (nr c d && nr e f)) && (xr a b c d a b e f == 0) && decide (dr a b e f c d e f ≤ 0)) := by
  by_cases h : nr3 a b c d e f = true
  · obtain ⟨h1, h2, h3⟩ := (nr3_iff ..).1 h
    rw [h, show (nr a b && (nr c d && nr e f)) = true from h, on_eq h1 h2 h3, (xr_eq h1 h2 h1 h3).1, (dr_eq h1 h3 h2 h3).1]
    have e1 : dt a b c d e f = (e - a) * (e - c) + (f - b) * (f - d) := by unfold dt; grind
    rw [e1]
    rfl
  · rw [Bool.eq_false_iff.2 h, show (nr a b && (nr c d && nr e f)) = false from Bool.eq_false_iff.2 h]
    rfl
/-! ### In and Overlap -/
theorem in_rin (a b c d e f : Int) : (decide (a ≤ e) && decide (e ≤ c) && decide (b ≤ f) && decide (f ≤ d)) = (decide (e ≥ a) && decide (e ≤ c) && decide (f ≥ b) && decide (f ≤ d)) := rfl
theorem ovl_iff (a b c d e f g h : Int) : ovl a b c d e f g h = true ↔ a < c ∧ e < g ∧ a < g ∧ e < c ∧ b < d ∧ f < h ∧ b < h ∧ f < d := by
  unfold ovl
  rw [Bool.and_eq_true, decide_eq_true_eq, decide_eq_true_eq]
  split <;> split <;> split <;> split <;> omega
theorem rovl_iff (a b c d e f g h : Int) : rovl a b c d e f g h = true ↔ a < c ∧ e < g ∧ a < g ∧ e < c ∧ b < d ∧ f < h ∧ b < h ∧ f < d := by
  unfold rovl
  simp only [Bool.and_eq_true, decide_eq_true_eq, and_assoc]
end Go.Proofs.YtgamkmgdbfeigaaM
