/- Plain lemmas on the printed functions: numbers and lists alone, no program and no memory. -/
import Derived.Test.YtachglfhgcdobaaLibNum
import Derived.Test.YtachglfhgcdobaaPAllx11
import Derived.Test.YtachglfhgcdobaaPAllx12
import Derived.Test.YtachglfhgcdobaaPAllx13
import Derived.Test.YtachglfhgcdobaaPAllx14
import Derived.Test.YtachglfhgcdobaaPAllx3
import Derived.Test.YtachglfhgcdobaaPAllx4
namespace Go.Proofs.Ytachglfhgcdobaa.PAll
open Go.RowKit Go.Proofs.YtachglfhgcdobaaW.PrintWords Go.Proofs.YtachglfhgcdobaaW.PrintLast
set_option linter.unusedVariables false
/-! ### grids of heights: the checks of package terrain and of the reference tell the same -/
theorem rd_get (l : List Int) (i : Nat) (h : i < l.length) : rd l (i : Int) = l[i] := by
  unfold rd; rw [show ((i : Int)).toNat = i from rfl, List.getD_eq_getElem?_getD, List.getElem?_eq_getElem h, Option.getD_some]
def badV (v : Int) : Bool := decide (v < -10000 ∨ 10000 < v)
def hasBad (l : List Int) : Bool := l.any badV
theorem hasBad_drop {l : List Int} {i : Nat} (hi : i < l.length) : hasBad (l.drop i) = (badV l[i] || hasBad (l.drop (i + 1))) := by
  rw [List.drop_eq_getElem_cons hi]; rfl
theorem hasBad_rd {l : List Int} (h : hasBad l = false) {i : Int} (h0 : 0 ≤ i) (h1 : i < l.length) : -10000 ≤ rd l i ∧ rd l i ≤ 10000 := by
  obtain ⟨n, rfl⟩ : ∃ n : Nat, i = n := ⟨i.toNat, by omega⟩
  have hn : n < l.length := by omega
  rw [rd_get l n hn]
  have := List.any_eq_false.1 h l[n] (List.getElem_mem hn)
  unfold badV at this
  simp only [decide_eq_true_eq] at this
  omega
def fits (x y c r s : Int) : Prop := (-1048576 ≤ x ∧ x ≤ 1048576) ∧ (-1048576 ≤ y ∧ y ≤ 1048576) ∧ (2 ≤ c ∧ c ≤ 64) ∧ (2 ≤ r ∧ r ≤ 64) ∧ (1 ≤ s ∧ s ≤ 1048576) ∧ x + (c - 1) * s ≤ 1048576 ∧ y + (r - 1) * s ≤ 1048576
instance (x y c r s : Int) : Decidable (fits x y c r s) := by unfold fits; infer_instance
def chkS (x y c r s : Int) (l : List Int) : Int := if fits x y c r s then (if (l.length : Int) = c * r then (if hasBad l then 2 else 0) else 1) else 2
theorem chkS_zero {x y c r s : Int} {l : List Int} (h : chkS x y c r s l = 0) : fits x y c r s ∧ (l.length : Int) = c * r ∧ hasBad l = false := by
  unfold chkS at h
  by_cases h1 : fits x y c r s
  · rw [if_pos h1] at h
    by_cases h2 : (l.length : Int) = c * r
    · rw [if_pos h2] at h
      cases h3 : hasBad l with
      | true => rw [h3, if_pos rfl] at h; exact absurd h (by decide)
      | false => exact ⟨h1, h2, rfl⟩
    · rw [if_neg h2] at h; exact absurd h (by decide)
  · rw [if_neg h1] at h; exact absurd h (by decide)
theorem chkS_of {x y c r s : Int} {l : List Int} (h1 : fits x y c r s) (h2 : (l.length : Int) = c * r) (h3 : hasBad l = false) : chkS x y c r s l = 0 := by
  unfold chkS; rw [if_pos h1, if_pos h2, h3]; rfl
theorem steps_le {n s : Int} (hn : 2 ≤ n ∧ n ≤ 64) (hs : 1 ≤ s ∧ s ≤ 1048576) : 0 ≤ (n - 1) * s ∧ (n - 1) * s ≤ 66060288 := by
  have h1 : 0 ≤ (n - 1) * s := Int.mul_nonneg (by omega) (by omega)
  have h2 : (n - 1) * s ≤ 63 * 1048576 := Int.mul_le_mul (by omega) hs.2 (by omega) (by omega)
  omega
theorem area_le {c r : Int} (hc : 2 ≤ c ∧ c ≤ 64) (hr : 2 ≤ r ∧ r ≤ 64) : 0 ≤ c * r ∧ c * r ≤ 4096 := by
  have h1 : 0 ≤ c * r := Int.mul_nonneg (by omega) (by omega)
  have h2 : c * r ≤ 64 * 64 := Int.mul_le_mul hc.2 hr.2 (by omega) (by omega)
  omega
theorem within_eq (a b c : Int) : terrain_within.f a b c = some (decide (b ≤ a ∧ a ≤ c)) := by
  unfold terrain_within.f
  by_cases h : a ≥ b
  · rw [if_pos h]; congr 1; rw [decide_eq_decide]; omega
  · rw [if_neg h, decide_eq_false (by omega)]
theorem idx_loop (l : List Int) (hl : l.length ≤ 4200) : ∀ (m i k : Nat), i + m = l.length → m + 1 ≤ k → ∃ r, slices_IndexFunc_int_int_at30.l0 k l (l.length : Int) (i : Int) = some r ∧ (r ≥ 0 ↔ hasBad (l.drop i) = true)
  | 0, i, k, h, hk => by
    obtain ⟨k, rfl⟩ : ∃ j, k = j + 1 := ⟨k - 1, by omega⟩
    refine ⟨-1, ?_, ?_⟩
    · simp only [slices_IndexFunc_int_int_at30.l0]; rw [if_neg (by omega)]
    · rw [List.drop_eq_nil_of_le (by omega)]; simp [hasBad]
  | m + 1, i, k, h, hk => by
    obtain ⟨k, rfl⟩ : ∃ j, k = j + 1 := ⟨k - 1, by omega⟩
    have hi : i < l.length := by omega
    have e : l.drop i = l[i] :: l.drop (i + 1) := List.drop_eq_getElem_cons hi
    have hc : terrain_Check_1.f (rd l (i : Int)) = some (badV l[i]) := by
      rw [rd_get l i hi]; unfold terrain_Check_1.f badV
      rw [within_eq, Option.bind_some]; congr 1
      rw [← decide_not, decide_eq_decide]; omega
    simp only [slices_IndexFunc_int_int_at30.l0]
    rw [if_pos (by omega), if_pos (by omega), if_pos (by omega), hc, Option.bind_some]
    cases hb : badV l[i] with
    | true => rw [if_pos rfl]; exact ⟨_, rfl, by rw [hasBad_drop hi, hb]; simp⟩
    | false =>
      rw [if_neg (by decide)]
      obtain ⟨r, h1, h2⟩ := idx_loop l hl m (i + 1) k (by omega) (by omega)
      refine ⟨r, ?_, ?_⟩
      · rw [show wrap64 ((i : Int) + 1) = ((i + 1 : Nat) : Int) by unfold wrap64; omega]; exact h1
      · rw [h2, hasBad_drop hi, hb, Bool.false_or]
theorem contains_eq (l : List Int) (hl : l.length ≤ 4200) (k : Nat) (hk : 4201 ≤ k) : slices_ContainsFunc_int_int_at30.f k l = some (hasBad l) := by
  obtain ⟨r, h1, h2⟩ := idx_loop l hl l.length 0 k (by omega) (by omega)
  unfold slices_ContainsFunc_int_int_at30.f slices_IndexFunc_int_int_at30.f
  have h1' : slices_IndexFunc_int_int_at30.l0 k l (l.length : Int) 0 = some r := h1
  rw [h1', Option.bind_some]; congr 1
  rw [List.drop_zero] at h2
  cases hb : hasBad l with
  | true => rw [hb] at h2; exact decide_eq_true (h2.2 rfl)
  | false => rw [hb] at h2; exact decide_eq_false (fun h => by have := h2.1 h; cases this)
theorem terrain_Check_eq (x y c r s : Int) (l : List Int) (hl : l.length ≤ 4200) (k : Nat) (hk : 4210 ≤ k) : terrain_Check.f k x y c r s l = some (chkS x y c r s l) := by
  obtain ⟨k, rfl⟩ : ∃ j, k = j + 2 := ⟨k - 2, by omega⟩
  have j0t : ∀ x y c r s l, terrain_Check.j0 (k + 2) true x y c r s l = some 2 := fun _ _ _ _ _ _ => by simp only [terrain_Check.j0]; rfl
  have j1t : ∀ x y c r s l, terrain_Check.j1 (k + 1) true x y c r s l = some 2 := fun _ _ _ _ _ _ => by simp only [terrain_Check.j1]; rfl
  have bad : ¬ fits x y c r s → chkS x y c r s l = 2 := fun h => by unfold chkS; rw [if_neg h]
  unfold terrain_Check.f
  simp only [within_eq, Option.bind_some, decide_eq_true_eq]
  by_cases h1 : -1048576 ≤ x ∧ x ≤ 1048576
  case neg => rw [if_neg h1, j0t, bad (fun h => h1 h.1)]
  rw [if_pos h1]
  by_cases h2 : -1048576 ≤ y ∧ y ≤ 1048576
  case neg => rw [if_neg h2, j0t, bad (fun h => h2 h.2.1)]
  rw [if_pos h2]
  by_cases h3 : 2 ≤ c ∧ c ≤ 64
  case neg => rw [if_neg h3, j0t, bad (fun h => h3 h.2.2.1)]
  rw [if_pos h3]
  by_cases h4 : 2 ≤ r ∧ r ≤ 64
  case neg => rw [if_neg h4, j0t, bad (fun h => h4 h.2.2.2.1)]
  rw [if_pos h4]
  by_cases h5 : 1 ≤ s ∧ s ≤ 1048576
  case neg => rw [decide_eq_false h5, Bool.not_false, j0t, bad (fun h => h5 h.2.2.2.2.1)]
  rw [decide_eq_true h5, Bool.not_true]
  have p1 := steps_le h3 h5
  have p2 := steps_le h4 h5
  have p3 := area_le h3 h4
  have w1 : wrap64 (x + wrap64 (wrap64 (c - 1) * s)) = x + (c - 1) * s := by
    rw [show wrap64 (c - 1) = c - 1 from w64 (by omega), show wrap64 ((c - 1) * s) = (c - 1) * s from w64 (by omega)]; exact w64 (by omega)
  have w2 : wrap64 (y + wrap64 (wrap64 (r - 1) * s)) = y + (r - 1) * s := by
    rw [show wrap64 (r - 1) = r - 1 from w64 (by omega), show wrap64 ((r - 1) * s) = (r - 1) * s from w64 (by omega)]; exact w64 (by omega)
  have w3 : wrap64 (c * r) = c * r := w64 (by omega)
  simp only [terrain_Check.j0]
  rw [if_neg (by decide), w1, w2]
  by_cases h6 : x + (c - 1) * s > 1048576
  · rw [if_pos h6, j1t, bad (fun h => by have := h.2.2.2.2.2.1; omega)]
  rw [if_neg h6]
  by_cases h7 : y + (r - 1) * s > 1048576
  · rw [decide_eq_true h7, j1t, bad (fun h => by have := h.2.2.2.2.2.2; omega)]
  rw [decide_eq_false h7]
  have hf : fits x y c r s := ⟨h1, h2, h3, h4, h5, by omega, by omega⟩
  simp only [terrain_Check.j1]
  rw [if_neg (by decide), w3]
  unfold chkS
  rw [if_pos hf]
  by_cases h8 : (l.length : Int) = c * r
  · rw [if_pos h8, if_pos h8, contains_eq l hl k (by omega), Option.bind_some]
    cases hasBad l <;> rfl
  · rw [if_neg h8, if_neg h8]
theorem point_eq (x y : Int) : mapsheetsref10_Point.f x y = some (decide ((-1048576 ≤ x ∧ x ≤ 1048576) ∧ (-1048576 ≤ y ∧ y ≤ 1048576))) := by
  unfold mapsheetsref10_Point.f
  by_cases h1 : x ≥ -1048576
  case neg => rw [if_neg h1, decide_eq_false (by omega)]
  rw [if_pos h1]
  by_cases h2 : x ≤ 1048576
  case neg => rw [if_neg h2, decide_eq_false (by omega)]
  rw [if_pos h2]
  by_cases h3 : y ≥ -1048576
  case neg => rw [if_neg h3, decide_eq_false (by omega)]
  rw [if_pos h3]; congr 1; rw [decide_eq_decide]; omega
theorem ref43_loop (x y c r s : Int) (l : List Int) (hl : l.length ≤ 4200) : ∀ (m i k : Nat), i + m = l.length → m + 1 ≤ k → mapsheetsref43_Check.l0 k (i : Int) x y c r s l = some (if hasBad (l.drop i) then 2 else 0)
  | 0, i, k, h, hk => by
    obtain ⟨k, rfl⟩ : ∃ j, k = j + 1 := ⟨k - 1, by omega⟩
    simp only [mapsheetsref43_Check.l0]
    rw [if_neg (by omega), List.drop_eq_nil_of_le (by omega)]; rfl
  | m + 1, i, k, h, hk => by
    obtain ⟨k, rfl⟩ : ∃ j, k = j + 1 := ⟨k - 1, by omega⟩
    have hi : i < l.length := by omega
    have e : l.drop i = l[i] :: l.drop (i + 1) := List.drop_eq_getElem_cons hi
    simp only [mapsheetsref43_Check.l0]
    rw [if_pos (by omega), if_pos (by omega), rd_get l i hi, hasBad_drop hi]
    by_cases h1 : l[i] < -10000
    · rw [if_pos h1]
      have : badV l[i] = true := decide_eq_true (.inl h1)
      rw [this]; rfl
    · rw [if_neg h1]
      by_cases h2 : l[i] > 10000
      · rw [if_pos h2]
        have : badV l[i] = true := decide_eq_true (.inr h2)
        rw [this]; rfl
      · rw [if_neg h2, show wrap64 ((i : Int) + 1) = ((i + 1 : Nat) : Int) by unfold wrap64; omega, ref43_loop x y c r s l hl m (i + 1) k (by omega) (by omega)]
        have : badV l[i] = false := decide_eq_false (by omega)
        rw [this]; rfl
theorem ref43_Check_eq (x y c r s : Int) (l : List Int) (hl : l.length ≤ 4200) (k : Nat) (hk : 4210 ≤ k) : mapsheetsref43_Check.f k x y c r s l = some (chkS x y c r s l) := by
  obtain ⟨k, rfl⟩ : ∃ j, k = j + 1 := ⟨k - 1, by omega⟩
  have j0t : ∀ x y c r s l, mapsheetsref43_Check.j0 (k + 1) true x y c r s l = some 2 := fun _ _ _ _ _ _ => by simp only [mapsheetsref43_Check.j0]; rfl
  have bad : ¬ fits x y c r s → chkS x y c r s l = 2 := fun h => by unfold chkS; rw [if_neg h]
  unfold mapsheetsref43_Check.f
  simp only [point_eq, Option.bind_some, decide_eq_true_eq]
  by_cases h1 : (-1048576 ≤ x ∧ x ≤ 1048576) ∧ (-1048576 ≤ y ∧ y ≤ 1048576)
  case neg => rw [if_neg h1, j0t, bad (fun h => h1 ⟨h.1, h.2.1⟩)]
  rw [if_pos h1]
  by_cases h3 : c < 2
  · rw [if_pos h3, j0t, bad (fun h => by have := h.2.2.1; omega)]
  rw [if_neg h3]
  by_cases h3' : c > 64
  · rw [if_pos h3', j0t, bad (fun h => by have := h.2.2.1; omega)]
  rw [if_neg h3']
  by_cases h4 : r < 2
  · rw [if_pos h4, j0t, bad (fun h => by have := h.2.2.2.1; omega)]
  rw [if_neg h4]
  by_cases h4' : r > 64
  · rw [if_pos h4', j0t, bad (fun h => by have := h.2.2.2.1; omega)]
  rw [if_neg h4']
  by_cases h5 : s < 1
  · rw [if_pos h5, j0t, bad (fun h => by have := h.2.2.2.2.1; omega)]
  rw [if_neg h5]
  by_cases h5' : s > 1048576
  · rw [decide_eq_true h5', j0t, bad (fun h => by have := h.2.2.2.2.1; omega)]
  rw [decide_eq_false h5']
  have p1 := steps_le (n := c) (s := s) (by omega) (by omega)
  have p2 := steps_le (n := r) (s := s) (by omega) (by omega)
  have p3 := area_le (c := c) (r := r) (by omega) (by omega)
  have w1 : wrap64 (x + wrap64 (wrap64 (c - 1) * s)) = x + (c - 1) * s := by
    rw [show wrap64 (c - 1) = c - 1 from w64 (by omega), show wrap64 ((c - 1) * s) = (c - 1) * s from w64 (by omega)]; exact w64 (by omega)
  have w2 : wrap64 (y + wrap64 (wrap64 (r - 1) * s)) = y + (r - 1) * s := by
    rw [show wrap64 (r - 1) = r - 1 from w64 (by omega), show wrap64 ((r - 1) * s) = (r - 1) * s from w64 (by omega)]; exact w64 (by omega)
  have w3 : wrap64 (c * r) = c * r := w64 (by omega)
  simp only [mapsheetsref43_Check.j0, mapsheetsref43_at.f, Option.bind_some]
  rw [if_neg (by decide), w1, w2, point_eq, Option.bind_some]
  by_cases h6 : x + (c - 1) * s > 1048576 ∨ y + (r - 1) * s > 1048576
  · rw [if_neg (by rw [decide_eq_true_eq]; omega), bad (fun h => by have := h.2.2.2.2.2; omega)]
  rw [if_pos (by rw [decide_eq_true_eq]; omega), w3]
  have hf : fits x y c r s := ⟨h1.1, h1.2, by omega, by omega, by omega, by omega, by omega⟩
  unfold chkS
  rw [if_pos hf]
  by_cases h8 : (l.length : Int) = c * r
  · rw [if_pos h8, if_pos h8]
    have := ref43_loop x y c r s l hl l.length 0 k (by omega) (by omega)
    rw [List.drop_zero] at this
    exact this
  · rw [if_neg h8, if_neg h8]
theorem cell_lt {c r a b : Int} (ha : 0 ≤ a ∧ a < c) (hb : 0 ≤ b ∧ b < r) : 0 ≤ b * c + a ∧ b * c + a < c * r ∧ 0 ≤ b * c := by
  have h1 : 0 ≤ b * c := Int.mul_nonneg hb.1 (by omega)
  have h2 : b * c ≤ (r - 1) * c := Int.mul_le_mul_of_nonneg_right (by omega) (by omega)
  rw [Int.sub_mul, Int.mul_comm r c] at h2
  omega
theorem there_eq (x y c r s : Int) (l : List Int) (a b : Int) : mapsheetsref43_there.f x y c r s l a b = some (decide ((0 ≤ a ∧ a < c) ∧ (0 ≤ b ∧ b < r))) := by
  unfold mapsheetsref43_there.f
  by_cases h1 : a ≥ 0
  case neg => rw [if_neg h1, decide_eq_false (by omega)]
  rw [if_pos h1]
  by_cases h2 : a < c
  case neg => rw [if_neg h2, decide_eq_false (by omega)]
  rw [if_pos h2]
  by_cases h3 : b ≥ 0
  case neg => rw [if_neg h3, decide_eq_false (by omega)]
  rw [if_pos h3]; congr 1; rw [decide_eq_decide]; omega
def valS (x y c r s : Int) (l : List Int) (a b : Int) : Int × Int := if chkS x y c r s l = 0 then (if (0 ≤ a ∧ a < c) ∧ (0 ≤ b ∧ b < r) then (rd l (b * c + a), 0) else (0, 7)) else (0, chkS x y c r s l)
theorem ref43_Value_eq (x y c r s : Int) (l : List Int) (hl : l.length ≤ 4200) (a b : Int) (k : Nat) (hk : 4210 ≤ k) : mapsheetsref43_Value.f k x y c r s l a b = some (valS x y c r s l a b) := by
  unfold mapsheetsref43_Value.f valS
  rw [ref43_Check_eq x y c r s l hl k hk, Option.bind_some, there_eq, Option.bind_some]
  by_cases h : chkS x y c r s l = 0
  · rw [if_pos h, if_pos h]
    obtain ⟨hf, hn, _⟩ := chkS_zero h
    have p3 := area_le hf.2.2.1 hf.2.2.2.1
    by_cases hc : (0 ≤ a ∧ a < c) ∧ (0 ≤ b ∧ b < r)
    · have := cell_lt hc.1 hc.2
      rw [if_pos (decide_eq_true hc), if_pos hc]
      have w : wrap64 (wrap64 (b * c) + a) = b * c + a := by rw [show wrap64 (b * c) = b * c from w64 (by omega)]; exact w64 (by omega)
      rw [w, if_pos (by omega), if_pos (by omega)]
    · rw [if_neg (by rw [decide_eq_true_eq]; exact hc), if_neg hc]
  · rw [if_neg h, if_neg h]
end Go.Proofs.Ytachglfhgcdobaa.PAll
