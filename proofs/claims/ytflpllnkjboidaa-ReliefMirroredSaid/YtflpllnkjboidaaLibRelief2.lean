/- Plain lemmas on the printed functions: numbers and lists alone, no program and no memory. -/
import Derived.Test.YtflpllnkjboidaaLibRelief
import Derived.Test.YtflpllnkjboidaaPAllx11
import Derived.Test.YtflpllnkjboidaaPAllx12
import Derived.Test.YtflpllnkjboidaaPAllx13
import Derived.Test.YtflpllnkjboidaaPAllx4
import Derived.Test.YtflpllnkjboidaaPAllx5
namespace Go.Proofs.Ytflpllnkjboidaa.PAll
open Go.RowKit Go.Proofs.YtflpllnkjboidaaW.PrintWords Go.Proofs.YtflpllnkjboidaaW.PrintLast
set_option linter.unusedVariables false
/-! ### Slope, Shade and All, of the program and of the reference -/
def slopeS (x y c r s : Int) (l : List Int) (a b : Int) : Int × Int × Int :=
  if chkS x y c r s l = 0 then (if insideC c r a b then (gradX l c a b, gradY l c a b, 0) else (0, 0, 2)) else (0, 0, chkS x y c r s l)
def shadeS (x y c r s : Int) (l : List Int) (a b : Int) : Int × Int :=
  if chkS x y c r s l = 0 then (if insideC c r a b then (shadeG (gradX l c a b) (gradY l c a b) s, 0) else (0, 2)) else (0, chkS x y c r s l)
theorem find_eq (x y c r s : Int) (l : List Int) (hl : l.length ≤ 4200) (a b : Int) (k : Nat) (hk : 4210 ≤ k) :
    relief_find.f k x y c r s l a b = some (if chkS x y c r s l = 0 then (if insideC c r a b then (hgt l c a b, hgt l c (a + 1) b, hgt l c a (b + 1), hgt l c (a + 1) (b + 1), 0) else (0, 0, 0, 0, 2)) else (0, 0, 0, 0, chkS x y c r s l)) := by
  unfold relief_find.f
  rw [terrain_Check_eq x y c r s l hl k hk, Option.bind_some]
  by_cases h : chkS x y c r s l = 0
  case neg => rw [if_neg h, if_neg h]
  rw [if_pos h, if_pos h]
  obtain ⟨hf, hn, hb⟩ := chkS_zero h
  have hc := hf.2.2.1
  have hr := hf.2.2.2.1
  rw [w64 (x := c - 2) (by omega), w64 (x := r - 2) (by omega)]
  by_cases h1 : a < 0
  · rw [if_pos h1, if_neg (show ¬ insideC c r a b by unfold insideC; omega)]
  rw [if_neg h1]
  by_cases h2 : a > c - 2
  · rw [if_pos h2, if_neg (show ¬ insideC c r a b by unfold insideC; omega)]
  rw [if_neg h2]
  by_cases h3 : b < 0
  · rw [if_pos h3, if_neg (show ¬ insideC c r a b by unfold insideC; omega)]
  rw [if_neg h3]
  by_cases h4 : b > r - 2
  · rw [if_pos h4, if_neg (show ¬ insideC c r a b by unfold insideC; omega)]
  have hi : insideC c r a b := by unfold insideC; omega
  rw [if_neg h4, if_pos hi, corners_eq hf hn hb hi, Option.bind_some]
theorem relief_Slope_eq (x y c r s : Int) (l : List Int) (hl : l.length ≤ 4200) (a b : Int) (k : Nat) (hk : 4210 ≤ k) : relief_Slope.f k x y c r s l a b = some (slopeS x y c r s l a b) := by
  unfold relief_Slope.f slopeS
  rw [find_eq x y c r s l hl a b k hk, Option.bind_some]
  by_cases h : chkS x y c r s l = 0
  case neg => rw [if_neg h, if_neg h]; dsimp only; rw [if_neg h]
  rw [if_pos h, if_pos h]
  obtain ⟨hf, hn, hb⟩ := chkS_zero h
  by_cases hi : insideC c r a b
  case neg => rw [if_neg hi, if_neg hi]; rfl
  rw [if_pos hi, if_pos hi]
  dsimp only
  rw [if_pos rfl, cell_slope_eq hf hn hb hi, Option.bind_some]
theorem roundS_ok {a b : Int} (ha : -9000000 ≤ a ∧ a ≤ 9000000) (hb : 0 < b) : (roundS a b).2 = 0 := by
  unfold roundS; rw [if_neg (by omega), if_neg (by omega)]
theorem cell_shade_eq {x y c r s : Int} {l : List Int} (hf : fits x y c r s) (hn : (l.length : Int) = c * r) (hb : hasBad l = false) {a b : Int} (hi : insideC c r a b) (k : Nat) (hk : 1 ≤ k) :
    relief_cell_shade.f k (hgt l c a b) (hgt l c (a + 1) b) (hgt l c a (b + 1)) (hgt l c (a + 1) (b + 1)) s = some (shadeG (gradX l c a b) (gradY l c a b) s) := by
  unfold relief_cell_shade.f
  rw [cell_slope_eq hf hn hb hi, Option.bind_some]
  dsimp only
  have hg := grad_range hf hn hb hi
  have hs := hf.2.2.2.2.1
  have rr := round_range hg.1 hg.2 hs
  generalize gradX l c a b = gx at *
  generalize gradY l c a b = gy at *
  have ax := absI_nonneg gx
  have ay := absI_nonneg gy
  rw [mx_abs (by omega), mx_abs (by omega), w64 (x := gx - gy) (by omega), w64 (x := 50 * (gx - gy)) (by omega), w64 (x := absI gx + absI gy) (by omega), w64 (x := 4 * s) (by omega), w64 (x := absI gx + absI gy + 4 * s) (by omega),
    num_Round_eq (by omega) (by omega) k hk, Option.bind_some]
  unfold shadeG
  rw [w64 (by omega)]
theorem relief_Shade_eq (x y c r s : Int) (l : List Int) (hl : l.length ≤ 4200) (a b : Int) (k : Nat) (hk : 4210 ≤ k) : relief_Shade.f k x y c r s l a b = some (shadeS x y c r s l a b) := by
  unfold relief_Shade.f shadeS
  rw [find_eq x y c r s l hl a b k hk, Option.bind_some]
  by_cases h : chkS x y c r s l = 0
  case neg => rw [if_neg h, if_neg h]; dsimp only; rw [if_neg h]
  rw [if_pos h, if_pos h]
  obtain ⟨hf, hn, hb⟩ := chkS_zero h
  by_cases hi : insideC c r a b
  case neg => rw [if_neg hi, if_neg hi]; rfl
  rw [if_pos hi, if_pos hi]
  dsimp only
  rw [if_pos rfl, cell_shade_eq hf hn hb hi k (by omega), Option.bind_some]
theorem valS_in {x y c r s : Int} {l : List Int} (h : chkS x y c r s l = 0) {a b : Int} (ha : 0 ≤ a ∧ a < c) (hb : 0 ≤ b ∧ b < r) : valS x y c r s l a b = (hgt l c a b, 0) := by
  unfold valS hgt; rw [if_pos h, if_pos ⟨ha, hb⟩]
theorem wrap3 {p q u v : Int} (hp : -10000 ≤ p ∧ p ≤ 10000) (hq : -10000 ≤ q ∧ q ≤ 10000) (hu : -10000 ≤ u ∧ u ≤ 10000) (hv : -10000 ≤ v ∧ v ≤ 10000) : wrap64 (wrap64 (wrap64 (p + q) - u) - v) = p + q - u - v := by
  rw [w64 (x := p + q) (by omega), w64 (x := p + q - u) (by omega), w64 (by omega)]
theorem ref45_Slope_eq (x y c r s : Int) (l : List Int) (hl : l.length ≤ 4200) {a b : Int} (ha : -9223372036854775808 ≤ a ∧ a ≤ 9223372036854775807) (hb' : -9223372036854775808 ≤ b ∧ b ≤ 9223372036854775807) (k : Nat) (hk : 4211 ≤ k) : mapsheetsref45_Slope.f k x y c r s l a b = some (slopeS x y c r s l a b) := by
  obtain ⟨k, rfl⟩ : ∃ j, k = j + 1 := ⟨k - 1, by omega⟩
  unfold mapsheetsref45_Slope.f slopeS
  rw [ref43_Check_eq x y c r s l hl _ (by omega), Option.bind_some]
  by_cases h : chkS x y c r s l = 0
  case neg => rw [if_neg h, if_neg h]
  rw [if_pos h, if_pos h]
  obtain ⟨hf, hn, hb⟩ := chkS_zero h
  have hc := hf.2.2.1
  have hr := hf.2.2.2.1
  have j0t : mapsheetsref45_Slope.j0 (k + 1) a b true x y c r s l = some (0, 0, 2) := by simp only [mapsheetsref45_Slope.j0]; rfl
  rw [w64 (x := c - 1) (by omega), w64 (x := r - 1) (by omega)]
  by_cases h1 : a < 0
  · rw [if_pos h1, j0t, if_neg (show ¬ insideC c r a b by unfold insideC; omega)]
  rw [if_neg h1]
  by_cases h2 : b < 0
  · rw [if_pos h2, j0t, if_neg (show ¬ insideC c r a b by unfold insideC; omega)]
  rw [if_neg h2]
  by_cases h3 : a ≥ c - 1
  · rw [if_pos h3, j0t, if_neg (show ¬ insideC c r a b by unfold insideC; omega)]
  rw [if_neg h3]
  by_cases h4 : b ≥ r - 1
  · rw [decide_eq_true h4, j0t, if_neg (show ¬ insideC c r a b by unfold insideC; omega)]
  have hi : insideC c r a b := by unfold insideC; omega
  rw [decide_eq_false h4, if_pos hi]
  simp only [mapsheetsref45_Slope.j0]
  rw [if_neg (by decide), w64 (x := a + 1) (by omega), w64 (x := b + 1) (by omega), ref43_Value_eq x y c r s l hl _ _ _ (by omega), Option.bind_some, ref43_Value_eq x y c r s l hl _ _ _ (by omega), Option.bind_some, ref43_Value_eq x y c r s l hl _ _ _ (by omega), Option.bind_some, ref43_Value_eq x y c r s l hl _ _ _ (by omega), Option.bind_some,
    valS_in h (by omega) (by omega), valS_in h (by omega) (by omega), valS_in h (by omega) (by omega), valS_in h (by omega) (by omega)]
  dsimp only
  have t1 := hgt_range hf hn hb (a := a) (b := b) (by omega) (by omega)
  have t2 := hgt_range hf hn hb (a := a + 1) (b := b) (by omega) (by omega)
  have t3 := hgt_range hf hn hb (a := a) (b := b + 1) (by omega) (by omega)
  have t4 := hgt_range hf hn hb (a := a + 1) (b := b + 1) (by omega) (by omega)
  unfold gradX gradY
  rw [wrap3 t2 t4 t1 t3, wrap3 t3 t4 t1 t2]
theorem ref45_Shade_eq (x y c r s : Int) (l : List Int) (hl : l.length ≤ 4200) {a b : Int} (ha : -9223372036854775808 ≤ a ∧ a ≤ 9223372036854775807) (hb' : -9223372036854775808 ≤ b ∧ b ≤ 9223372036854775807) (k : Nat) (hk : 4211 ≤ k) : mapsheetsref45_Shade.f k x y c r s l a b = some (shadeS x y c r s l a b) := by
  unfold mapsheetsref45_Shade.f shadeS
  rw [ref45_Slope_eq x y c r s l hl ha hb' k hk, Option.bind_some]
  unfold slopeS
  by_cases h : chkS x y c r s l = 0
  case neg => rw [if_neg h, if_neg h]; dsimp only; rw [if_neg h]
  rw [if_pos h, if_pos h]
  obtain ⟨hf, hn, hb⟩ := chkS_zero h
  by_cases hi : insideC c r a b
  case neg => rw [if_neg hi, if_neg hi]; rfl
  rw [if_pos hi, if_pos hi]
  dsimp only
  unfold mapsheetsref45_size.f
  rw [if_pos rfl, Option.bind_some, Option.bind_some]
  have hg := grad_range hf hn hb hi
  have hs := hf.2.2.2.2.1
  have rr := round_range hg.1 hg.2 hs
  generalize gradX l c a b = gx at *
  generalize gradY l c a b = gy at *
  have ax := absI_nonneg gx
  have ay := absI_nonneg gy
  rw [mx_abs (by omega), mx_abs (by omega), w64 (x := gx - gy) (by omega), w64 (x := 50 * (gx - gy)) (by omega), w64 (x := absI gx + absI gy) (by omega), w64 (x := 4 * s) (by omega), w64 (x := absI gx + absI gy + 4 * s) (by omega),
    ref01_Round_eq (by omega) (by omega) k (by omega), Option.bind_some]
  unfold shadeG
  rw [w64 (by omega)]
end Go.Proofs.Ytflpllnkjboidaa.PAll
