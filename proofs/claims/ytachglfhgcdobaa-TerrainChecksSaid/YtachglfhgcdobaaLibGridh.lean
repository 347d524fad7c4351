/- Plain lemmas on the printed functions: numbers and lists alone, no program and no memory. -/
import Derived.Test.YtachglfhgcdobaaLibGrid
import Derived.Test.YtachglfhgcdobaaPAllx14
import Derived.Test.YtachglfhgcdobaaPAllx5
import Derived.Test.YtachglfhgcdobaaPAllx6
namespace Go.Proofs.Ytachglfhgcdobaa.PAll
open Go.RowKit Go.Proofs.YtachglfhgcdobaaW.PrintWords Go.Proofs.YtachglfhgcdobaaW.PrintLast
set_option linter.unusedVariables false
/-! ### rows, heights, the least and the greatest one -/
/-- The height at a place of the grid. -/
def hgt (l : List Int) (c x y : Int) : Int := rd l (y * c + x)
def rowS (l : List Int) (c q : Int) : List Int := (l.take ((q + 1) * c).toNat).drop (q * c).toNat
theorem rd_part (l : List Int) (A B i : Nat) (h : A + i < B) (hB : B ≤ l.length) : rd ((l.take B).drop A) (i : Int) = rd l ((A + i : Nat) : Int) := by
  rw [rd_get _ i (by rw [List.length_drop, List.length_take]; omega), rd_get l (A + i) (by omega), List.getElem_drop, List.getElem_take]
section
set_option linter.unusedSectionVars false
variable {x y c r s : Int} {l : List Int} (hf : fits x y c r s) (hn : (l.length : Int) = c * r)
include hf hn
theorem hgt_range (hb : hasBad l = false) {a b : Int} (ha : 0 ≤ a ∧ a < c) (hb' : 0 ≤ b ∧ b < r) : -10000 ≤ hgt l c a b ∧ hgt l c a b ≤ 10000 := by
  have := cell_lt ha hb'
  exact hasBad_rd hb this.1 (by omega)
theorem row_ends {q : Int} (hq : 0 ≤ q ∧ q < r) : 0 ≤ q * c ∧ (q + 1) * c = q * c + c ∧ (q + 1) * c ≤ l.length ∧ (l.length : Int) ≤ 4096 := by
  have h := cell_lt (c := c) (r := r) (a := c - 1) (b := q) (by have := hf.2.2.1; omega) hq
  have e : (q + 1) * c = q * c + c := by rw [Int.add_mul, Int.one_mul]
  have p3 := area_le hf.2.2.1 hf.2.2.2.1
  omega
theorem row_eq {q : Int} (hq : 0 ≤ q ∧ q < r) : terrain_row.f x y c r s l q = some (rowS l c q) := by
  obtain ⟨h1, h2, h3, h4⟩ := row_ends hf hn hq
  have hc := hf.2.2.1
  have hr := hf.2.2.2.1
  unfold terrain_row.f rowS
  rw [w64 (x := q + 1) (by omega), w64 (x := q * c) (by omega), w64 (x := (q + 1) * c) (by omega), if_pos (by omega), if_pos (by omega), if_pos (by omega)]
theorem rowS_len {q : Int} (hq : 0 ≤ q ∧ q < r) : ((rowS l c q).length : Int) = c := by
  obtain ⟨h1, h2, h3, h4⟩ := row_ends hf hn hq
  have hc := hf.2.2.1
  unfold rowS
  rw [List.length_drop, List.length_take]; omega
theorem rowS_rd {q p : Int} (hq : 0 ≤ q ∧ q < r) (hp : 0 ≤ p ∧ p < c) : rd (rowS l c q) p = hgt l c p q := by
  obtain ⟨h1, h2, h3, h4⟩ := row_ends hf hn hq
  obtain ⟨n, rfl⟩ : ∃ n : Nat, p = n := ⟨p.toNat, by omega⟩
  unfold rowS hgt
  rw [rd_part l _ _ n (by omega) (by omega)]
  congr 1; omega
end
theorem terrain_Value_eq (x y c r s : Int) (l : List Int) (hl : l.length ≤ 4200) (a b : Int) (k : Nat) (hk : 4210 ≤ k) : terrain_Value.f k x y c r s l a b = some (valS x y c r s l a b) := by
  unfold terrain_Value.f valS
  rw [terrain_Check_eq x y c r s l hl k hk, Option.bind_some]
  by_cases h : chkS x y c r s l = 0
  case neg => rw [if_neg h, if_neg h]
  obtain ⟨hf, hn, _⟩ := chkS_zero h
  have hc := hf.2.2.1
  have hr := hf.2.2.2.1
  rw [if_pos h, if_pos h, w64 (x := c - 1) (by omega), w64 (x := r - 1) (by omega), within_eq, Option.bind_some]
  by_cases h1 : 0 ≤ a ∧ a < c
  case neg => rw [if_neg (by rw [decide_eq_true_eq]; omega), if_neg (fun g => h1 g.1)]
  rw [if_pos (decide_eq_true (by omega)), within_eq, Option.bind_some]
  by_cases h2 : 0 ≤ b ∧ b < r
  case neg => rw [if_neg (by rw [decide_eq_true_eq]; omega), if_neg (fun g => h2 g.2)]
  rw [if_pos (decide_eq_true (by omega)), if_pos (show (0 ≤ a ∧ a < c) ∧ (0 ≤ b ∧ b < r) from ⟨h1, h2⟩), row_eq hf hn h2, Option.bind_some, rowS_len hf hn h2, if_pos (by omega), if_pos (by omega), rowS_rd hf hn h2 h1]
  rfl
theorem min_loop (l : List Int) (hl : l.length ≤ 4200) : ∀ (m i k : Nat) (a : Int), i + m = l.length → m + 1 ≤ k → slices_Min_int_int.l0 k l a (i : Int) = some ((l.drop i).foldl mn a)
  | 0, i, k, a, hi, hk => by
    obtain ⟨k, rfl⟩ : ∃ j, k = j + 1 := ⟨k - 1, by omega⟩
    rw [slices_Min_int_int.l0, if_neg (by omega), List.drop_eq_nil_of_le (by omega)]; rfl
  | m + 1, i, k, a, hi, hk => by
    obtain ⟨k, rfl⟩ : ∃ j, k = j + 1 := ⟨k - 1, by omega⟩
    have hlt : i < l.length := by omega
    rw [slices_Min_int_int.l0, if_pos (by omega), if_pos (by omega), rd_get l i hlt, show wrap64 ((i : Int) + 1) = ((i + 1 : Nat) : Int) by rw [w64 (by omega)]; omega, min_loop l hl m (i + 1) k _ (by omega) (by omega), List.drop_eq_getElem_cons hlt]
    rfl
theorem max_loop (l : List Int) (hl : l.length ≤ 4200) : ∀ (m i k : Nat) (a : Int), i + m = l.length → m + 1 ≤ k → slices_Max_int_int.l0 k l a (i : Int) = some ((l.drop i).foldl mx a)
  | 0, i, k, a, hi, hk => by
    obtain ⟨k, rfl⟩ : ∃ j, k = j + 1 := ⟨k - 1, by omega⟩
    rw [slices_Max_int_int.l0, if_neg (by omega), List.drop_eq_nil_of_le (by omega)]; rfl
  | m + 1, i, k, a, hi, hk => by
    obtain ⟨k, rfl⟩ : ∃ j, k = j + 1 := ⟨k - 1, by omega⟩
    have hlt : i < l.length := by omega
    rw [slices_Max_int_int.l0, if_pos (by omega), if_pos (by omega), rd_get l i hlt, show wrap64 ((i : Int) + 1) = ((i + 1 : Nat) : Int) by rw [w64 (by omega)]; omega, max_loop l hl m (i + 1) k _ (by omega) (by omega), List.drop_eq_getElem_cons hlt]
    rfl
def extS (x y c r s : Int) (l : List Int) : Int × Int × Int := if chkS x y c r s l = 0 then ((l.drop 1).foldl mn (rd l 0), (l.drop 1).foldl mx (rd l 0), 0) else (0, 0, chkS x y c r s l)
theorem len_pos {x y c r s : Int} {l : List Int} (hf : fits x y c r s) (hn : (l.length : Int) = c * r) : 4 ≤ l.length := by
  have h := cell_lt (c := c) (r := r) (a := 1) (b := 1) (by have := hf.2.2.1; omega) (by have := hf.2.2.2.1; omega)
  have := hf.2.2.1
  omega
theorem terrain_Extent_eq (x y c r s : Int) (l : List Int) (hl : l.length ≤ 4200) (k : Nat) (hk : 4210 ≤ k) : terrain_Extent.f k x y c r s l = some (extS x y c r s l) := by
  unfold terrain_Extent.f extS
  rw [terrain_Check_eq x y c r s l hl k hk, Option.bind_some]
  by_cases h : chkS x y c r s l = 0
  case neg => rw [if_neg h, if_neg h]
  obtain ⟨hf, hn, _⟩ := chkS_zero h
  have h4 := len_pos hf hn
  rw [if_pos h, if_pos h]
  unfold slices_Min_int_int.f slices_Max_int_int.f
  have e1 := min_loop l hl (l.length - 1) 1 k (rd l 0) (by omega) (by omega)
  have e2 := max_loop l hl (l.length - 1) 1 k (rd l 0) (by omega) (by omega)
  rw [show ((1 : Nat) : Int) = 1 from rfl] at e1 e2
  rw [if_neg (by omega), if_pos (by omega), e1, Option.bind_some, if_neg (by omega), if_pos (by omega), e2, Option.bind_some]
theorem ext_loop (x y c r s : Int) (l : List Int) (hl : l.length ≤ 4200) : ∀ (m i k : Nat) (a b : Int), i + m = l.length → m + 1 ≤ k → mapsheetsref43_Extent.l0 k a b (i : Int) x y c r s l = some ((l.drop i).foldl mn a, (l.drop i).foldl mx b, 0)
  | 0, i, k, a, b, hi, hk => by
    obtain ⟨k, rfl⟩ : ∃ j, k = j + 1 := ⟨k - 1, by omega⟩
    rw [mapsheetsref43_Extent.l0, if_neg (by omega), List.drop_eq_nil_of_le (by omega)]; rfl
  | m + 1, i, k, a, b, hi, hk => by
    obtain ⟨k, rfl⟩ : ∃ j, k = j + 1 := ⟨k - 1, by omega⟩
    have hlt : i < l.length := by omega
    rw [mapsheetsref43_Extent.l0, if_pos (by omega), if_pos (by omega), rd_get l i hlt, show wrap64 ((i : Int) + 1) = ((i + 1 : Nat) : Int) by rw [w64 (by omega)]; omega, ext_loop x y c r s l hl m (i + 1) k _ _ (by omega) (by omega), List.drop_eq_getElem_cons hlt]
    rfl
theorem ref43_Extent_eq (x y c r s : Int) (l : List Int) (hl : l.length ≤ 4200) (k : Nat) (hk : 4210 ≤ k) : mapsheetsref43_Extent.f k x y c r s l = some (extS x y c r s l) := by
  unfold mapsheetsref43_Extent.f extS
  rw [ref43_Check_eq x y c r s l hl k hk, Option.bind_some]
  by_cases h : chkS x y c r s l = 0
  case neg => rw [if_neg h, if_neg h]
  obtain ⟨hf, hn, _⟩ := chkS_zero h
  have h4 := len_pos hf hn
  rw [if_pos h, if_pos h, if_pos (by omega)]
  have e := ext_loop x y c r s l hl l.length 0 k (rd l 0) (rd l 0) (by omega) (by omega)
  rw [show ((0 : Nat) : Int) = 0 from rfl, List.drop_zero] at e
  rw [e]
  have hz : rd l 0 = l[0] := rd_get l 0 (by omega)
  have e1 : mn (rd l 0) l[0] = rd l 0 := by unfold mn; rw [hz]; split <;> rfl
  have e2 : mx (rd l 0) l[0] = rd l 0 := by unfold mx; rw [hz]; split <;> rfl
  have ed : l = l[0] :: l.drop 1 := by have := List.drop_eq_getElem_cons (l := l) (i := 0) (by omega); rwa [List.drop_zero] at this
  have f1 : l.foldl mn (rd l 0) = (l.drop 1).foldl mn (rd l 0) := by
    conv => lhs; rw [ed]
    rw [List.foldl_cons, ← ed, e1]
  have f2 : l.foldl mx (rd l 0) = (l.drop 1).foldl mx (rd l 0) := by
    conv => lhs; rw [ed]
    rw [List.foldl_cons, ← ed, e2]
  rw [f1, f2]
end Go.Proofs.Ytachglfhgcdobaa.PAll
