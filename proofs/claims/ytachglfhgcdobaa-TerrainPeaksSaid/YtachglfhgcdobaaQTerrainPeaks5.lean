/- The row of the law TerrainPeaks: for every input that can be read the call returns true, and each argument reads as it did. No condition. -/
import Derived.SizedLaws
import Derived.DataElems
import Derived.Deep.Slices
import Derived.OpenShut
import Derived.Test.YtachglfhgcdobaaRows
import Derived.WalkKit
import Derived.ProofKit
import Derived.ShutString
import Derived.ChangeOld
import Derived.Below
import Derived.Test.YtachglfhgcdobaaQTerrainPeaks4
section
namespace Go.Proofs.Ytachglfhgcdobaa.PAll
open Go.RowKit Go.Proofs.YtachglfhgcdobaaW.PrintWords Go.Proofs.YtachglfhgcdobaaW.PrintLast
set_option linter.unusedVariables false
theorem rd_get (l : List Int) (i : Nat) (h : i < l.length) : rd l (i : Int) = l[i] := by
  unfold rd; rw [show ((i : Int)).toNat = i from rfl, List.getD_eq_getElem?_getD, List.getElem?_eq_getElem h, Option.getD_some]
def badV (v : Int) : Bool := decide (v < -10000 ∨ 10000 < v)
def hasBad (l : List Int) : Bool := l.any badV
theorem hasBad_drop {l : List Int} {i : Nat} (hi : i < l.length) : hasBad (l.drop i) = (badV l[i] || hasBad (l.drop (i + 1))) := by
  rw [List.drop_eq_getElem_cons hi]; rfl
def fits (x y c r s : Int) : Prop := (-1048576 ≤ x ∧ x ≤ 1048576) ∧ (-1048576 ≤ y ∧ y ≤ 1048576) ∧ (2 ≤ c ∧ c ≤ 64) ∧ (2 ≤ r ∧ r ≤ 64) ∧ (1 ≤ s ∧ s ≤ 1048576) ∧ x + (c - 1) * s ≤ 1048576 ∧ y + (r - 1) * s ≤ 1048576
instance (x y c r s : Int) : Decidable (fits x y c r s) := by unfold fits; infer_instance
def chkS (x y c r s : Int) (l : List Int) : Int := if fits x y c r s then (if (l.length : Int) = c * r then (if hasBad l then 2 else 0) else 1) else 2
theorem chkS_zero {x y c r s : Int} {l : List Int} (h : chkS x y c r s l = 0) : fits x y c r s ∧ (l.length : Int) = c * r ∧ hasBad l = false := by
  unfold chkS at h
  by_cases h1 : fits x y c r s
  · rw [if_pos h1] at h
    by_cases h2 : (l.length : Int) = c * r
    · rw [if_pos h2] at h
      cases h3 : hasBad l with
      | true => rw [h3, if_pos rfl] at h; exact absurd h (by decide)
      | false => exact ⟨h1, h2, rfl⟩
    · rw [if_neg h2] at h; exact absurd h (by decide)
  · rw [if_neg h1] at h; exact absurd h (by decide)
theorem steps_le {n s : Int} (hn : 2 ≤ n ∧ n ≤ 64) (hs : 1 ≤ s ∧ s ≤ 1048576) : 0 ≤ (n - 1) * s ∧ (n - 1) * s ≤ 66060288 := by
  have h1 : 0 ≤ (n - 1) * s := Int.mul_nonneg (by omega) (by omega)
  have h2 : (n - 1) * s ≤ 63 * 1048576 := Int.mul_le_mul (by omega) hs.2 (by omega) (by omega)
  omega
theorem area_le {c r : Int} (hc : 2 ≤ c ∧ c ≤ 64) (hr : 2 ≤ r ∧ r ≤ 64) : 0 ≤ c * r ∧ c * r ≤ 4096 := by
  have h1 : 0 ≤ c * r := Int.mul_nonneg (by omega) (by omega)
  have h2 : c * r ≤ 64 * 64 := Int.mul_le_mul hc.2 hr.2 (by omega) (by omega)
  omega
theorem within_eq (a b c : Int) : terrain_within.f a b c = some (decide (b ≤ a ∧ a ≤ c)) := by
  unfold terrain_within.f
  by_cases h : a ≥ b
  · rw [if_pos h]; congr 1; rw [decide_eq_decide]; omega
  · rw [if_neg h, decide_eq_false (by omega)]
theorem idx_loop (l : List Int) (hl : l.length ≤ 4200) : ∀ (m i k : Nat), i + m = l.length → m + 1 ≤ k → ∃ r, slices_IndexFunc_int_int_at30.l0 k l (l.length : Int) (i : Int) = some r ∧ (r ≥ 0 ↔ hasBad (l.drop i) = true)
  | 0, i, k, h, hk => by
    obtain ⟨k, rfl⟩ : ∃ j, k = j + 1 := ⟨k - 1, by omega⟩
    refine ⟨-1, ?_, ?_⟩
    · simp only [slices_IndexFunc_int_int_at30.l0]; rw [if_neg (by omega)]
    · rw [List.drop_eq_nil_of_le (by omega)]; simp [hasBad]
  | m + 1, i, k, h, hk => by
    obtain ⟨k, rfl⟩ : ∃ j, k = j + 1 := ⟨k - 1, by omega⟩
    have hi : i < l.length := by omega
    have e : l.drop i = l[i] :: l.drop (i + 1) := List.drop_eq_getElem_cons hi
    have hc : terrain_Check_1.f (rd l (i : Int)) = some (badV l[i]) := by
      rw [rd_get l i hi]; unfold terrain_Check_1.f badV
      rw [within_eq, Option.bind_some]; congr 1
      rw [← decide_not, decide_eq_decide]; omega
    simp only [slices_IndexFunc_int_int_at30.l0]
    rw [if_pos (by omega), if_pos (by omega), if_pos (by omega), hc, Option.bind_some]
    cases hb : badV l[i] with
    | true => rw [if_pos rfl]; exact ⟨_, rfl, by rw [hasBad_drop hi, hb]; simp⟩
    | false =>
      rw [if_neg (by decide)]
      obtain ⟨r, h1, h2⟩ := idx_loop l hl m (i + 1) k (by omega) (by omega)
      refine ⟨r, ?_, ?_⟩
      · rw [show wrap64 ((i : Int) + 1) = ((i + 1 : Nat) : Int) by unfold wrap64; omega]; exact h1
      · rw [h2, hasBad_drop hi, hb, Bool.false_or]
theorem contains_eq (l : List Int) (hl : l.length ≤ 4200) (k : Nat) (hk : 4201 ≤ k) : slices_ContainsFunc_int_int_at30.f k l = some (hasBad l) := by
  obtain ⟨r, h1, h2⟩ := idx_loop l hl l.length 0 k (by omega) (by omega)
  unfold slices_ContainsFunc_int_int_at30.f slices_IndexFunc_int_int_at30.f
  have h1' : slices_IndexFunc_int_int_at30.l0 k l (l.length : Int) 0 = some r := h1
  rw [h1', Option.bind_some]; congr 1
  rw [List.drop_zero] at h2
  cases hb : hasBad l with
  | true => rw [hb] at h2; exact decide_eq_true (h2.2 rfl)
  | false => rw [hb] at h2; exact decide_eq_false (fun h => by have := h2.1 h; cases this)
theorem terrain_Check_eq (x y c r s : Int) (l : List Int) (hl : l.length ≤ 4200) (k : Nat) (hk : 4210 ≤ k) : terrain_Check.f k x y c r s l = some (chkS x y c r s l) := by
  obtain ⟨k, rfl⟩ : ∃ j, k = j + 2 := ⟨k - 2, by omega⟩
  have j0t : ∀ x y c r s l, terrain_Check.j0 (k + 2) true x y c r s l = some 2 := fun _ _ _ _ _ _ => by simp only [terrain_Check.j0]; rfl
  have j1t : ∀ x y c r s l, terrain_Check.j1 (k + 1) true x y c r s l = some 2 := fun _ _ _ _ _ _ => by simp only [terrain_Check.j1]; rfl
  have bad : ¬ fits x y c r s → chkS x y c r s l = 2 := fun h => by unfold chkS; rw [if_neg h]
  unfold terrain_Check.f
  simp only [within_eq, Option.bind_some, decide_eq_true_eq]
  by_cases h1 : -1048576 ≤ x ∧ x ≤ 1048576
  case neg => rw [if_neg h1, j0t, bad (fun h => h1 h.1)]
  rw [if_pos h1]
  by_cases h2 : -1048576 ≤ y ∧ y ≤ 1048576
  case neg => rw [if_neg h2, j0t, bad (fun h => h2 h.2.1)]
  rw [if_pos h2]
  by_cases h3 : 2 ≤ c ∧ c ≤ 64
  case neg => rw [if_neg h3, j0t, bad (fun h => h3 h.2.2.1)]
  rw [if_pos h3]
  by_cases h4 : 2 ≤ r ∧ r ≤ 64
  case neg => rw [if_neg h4, j0t, bad (fun h => h4 h.2.2.2.1)]
  rw [if_pos h4]
  by_cases h5 : 1 ≤ s ∧ s ≤ 1048576
  case neg => rw [decide_eq_false h5, Bool.not_false, j0t, bad (fun h => h5 h.2.2.2.2.1)]
  rw [decide_eq_true h5, Bool.not_true]
  have p1 := steps_le h3 h5
  have p2 := steps_le h4 h5
  have p3 := area_le h3 h4
  have w1 : wrap64 (x + wrap64 (wrap64 (c - 1) * s)) = x + (c - 1) * s := by
    rw [show wrap64 (c - 1) = c - 1 from w64 (by omega), show wrap64 ((c - 1) * s) = (c - 1) * s from w64 (by omega)]; exact w64 (by omega)
  have w2 : wrap64 (y + wrap64 (wrap64 (r - 1) * s)) = y + (r - 1) * s := by
    rw [show wrap64 (r - 1) = r - 1 from w64 (by omega), show wrap64 ((r - 1) * s) = (r - 1) * s from w64 (by omega)]; exact w64 (by omega)
  have w3 : wrap64 (c * r) = c * r := w64 (by omega)
  simp only [terrain_Check.j0]
  rw [if_neg (by decide), w1, w2]
  by_cases h6 : x + (c - 1) * s > 1048576
  · rw [if_pos h6, j1t, bad (fun h => by have := h.2.2.2.2.2.1; omega)]
  rw [if_neg h6]
  by_cases h7 : y + (r - 1) * s > 1048576
  · rw [decide_eq_true h7, j1t, bad (fun h => by have := h.2.2.2.2.2.2; omega)]
  rw [decide_eq_false h7]
  have hf : fits x y c r s := ⟨h1, h2, h3, h4, h5, by omega, by omega⟩
  simp only [terrain_Check.j1]
  rw [if_neg (by decide), w3]
  unfold chkS
  rw [if_pos hf]
  by_cases h8 : (l.length : Int) = c * r
  · rw [if_pos h8, if_pos h8, contains_eq l hl k (by omega), Option.bind_some]
    cases hasBad l <;> rfl
  · rw [if_neg h8, if_neg h8]
theorem point_eq (x y : Int) : mapsheetsref10_Point.f x y = some (decide ((-1048576 ≤ x ∧ x ≤ 1048576) ∧ (-1048576 ≤ y ∧ y ≤ 1048576))) := by
  unfold mapsheetsref10_Point.f
  by_cases h1 : x ≥ -1048576
  case neg => rw [if_neg h1, decide_eq_false (by omega)]
  rw [if_pos h1]
  by_cases h2 : x ≤ 1048576
  case neg => rw [if_neg h2, decide_eq_false (by omega)]
  rw [if_pos h2]
  by_cases h3 : y ≥ -1048576
  case neg => rw [if_neg h3, decide_eq_false (by omega)]
  rw [if_pos h3]; congr 1; rw [decide_eq_decide]; omega
theorem ref43_loop (x y c r s : Int) (l : List Int) (hl : l.length ≤ 4200) : ∀ (m i k : Nat), i + m = l.length → m + 1 ≤ k → mapsheetsref43_Check.l0 k (i : Int) x y c r s l = some (if hasBad (l.drop i) then 2 else 0)
  | 0, i, k, h, hk => by
    obtain ⟨k, rfl⟩ : ∃ j, k = j + 1 := ⟨k - 1, by omega⟩
    simp only [mapsheetsref43_Check.l0]
    rw [if_neg (by omega), List.drop_eq_nil_of_le (by omega)]; rfl
  | m + 1, i, k, h, hk => by
    obtain ⟨k, rfl⟩ : ∃ j, k = j + 1 := ⟨k - 1, by omega⟩
    have hi : i < l.length := by omega
    have e : l.drop i = l[i] :: l.drop (i + 1) := List.drop_eq_getElem_cons hi
    simp only [mapsheetsref43_Check.l0]
    rw [if_pos (by omega), if_pos (by omega), rd_get l i hi, hasBad_drop hi]
    by_cases h1 : l[i] < -10000
    · rw [if_pos h1]
      have : badV l[i] = true := decide_eq_true (.inl h1)
      rw [this]; rfl
    · rw [if_neg h1]
      by_cases h2 : l[i] > 10000
      · rw [if_pos h2]
        have : badV l[i] = true := decide_eq_true (.inr h2)
        rw [this]; rfl
      · rw [if_neg h2, show wrap64 ((i : Int) + 1) = ((i + 1 : Nat) : Int) by unfold wrap64; omega, ref43_loop x y c r s l hl m (i + 1) k (by omega) (by omega)]
        have : badV l[i] = false := decide_eq_false (by omega)
        rw [this]; rfl
theorem ref43_Check_eq (x y c r s : Int) (l : List Int) (hl : l.length ≤ 4200) (k : Nat) (hk : 4210 ≤ k) : mapsheetsref43_Check.f k x y c r s l = some (chkS x y c r s l) := by
  obtain ⟨k, rfl⟩ : ∃ j, k = j + 1 := ⟨k - 1, by omega⟩
  have j0t : ∀ x y c r s l, mapsheetsref43_Check.j0 (k + 1) true x y c r s l = some 2 := fun _ _ _ _ _ _ => by simp only [mapsheetsref43_Check.j0]; rfl
  have bad : ¬ fits x y c r s → chkS x y c r s l = 2 := fun h => by unfold chkS; rw [if_neg h]
  unfold mapsheetsref43_Check.f
  simp only [point_eq, Option.bind_some, decide_eq_true_eq]
  by_cases h1 : (-1048576 ≤ x ∧ x ≤ 1048576) ∧ (-1048576 ≤ y ∧ y ≤ 1048576)
  case neg => rw [if_neg h1, j0t, bad (fun h => h1 ⟨h.1, h.2.1⟩)]
  rw [if_pos h1]
  by_cases h3 : c < 2
  · rw [if_pos h3, j0t, bad (fun h => by have := h.2.2.1; omega)]
  rw [if_neg h3]
  by_cases h3' : c > 64
  · rw [if_pos h3', j0t, bad (fun h => by have := h.2.2.1; omega)]
  rw [if_neg h3']
  by_cases h4 : r < 2
  · rw [if_pos h4, j0t, bad (fun h => by have := h.2.2.2.1; omega)]
  rw [if_neg h4]
  by_cases h4' : r > 64
  · rw [if_pos h4', j0t, bad (fun h => by have := h.2.2.2.1; omega)]
  rw [if_neg h4']
  by_cases h5 : s < 1
  · rw [if_pos h5, j0t, bad (fun h => by have := h.2.2.2.2.1; omega)]
  rw [if_neg h5]
  by_cases h5' : s > 1048576
  · rw [decide_eq_true h5', j0t, bad (fun h => by have := h.2.2.2.2.1; omega)]
  rw [decide_eq_false h5']
  have p1 := steps_le (n := c) (s := s) (by omega) (by omega)
  have p2 := steps_le (n := r) (s := s) (by omega) (by omega)
  have p3 := area_le (c := c) (r := r) (by omega) (by omega)
  have w1 : wrap64 (x + wrap64 (wrap64 (c - 1) * s)) = x + (c - 1) * s := by
    rw [show wrap64 (c - 1) = c - 1 from w64 (by omega), show wrap64 ((c - 1) * s) = (c - 1) * s from w64 (by omega)]; exact w64 (by omega)
  have w2 : wrap64 (y + wrap64 (wrap64 (r - 1) * s)) = y + (r - 1) * s := by
    rw [show wrap64 (r - 1) = r - 1 from w64 (by omega), show wrap64 ((r - 1) * s) = (r - 1) * s from w64 (by omega)]; exact w64 (by omega)
  have w3 : wrap64 (c * r) = c * r := w64 (by omega)
  simp only [mapsheetsref43_Check.j0, mapsheetsref43_at.f, Option.bind_some]
  rw [if_neg (by decide), w1, w2, point_eq, Option.bind_some]
  by_cases h6 : x + (c - 1) * s > 1048576 ∨ y + (r - 1) * s > 1048576
  · rw [if_neg (by rw [decide_eq_true_eq]; omega), bad (fun h => by have := h.2.2.2.2.2; omega)]
  rw [if_pos (by rw [decide_eq_true_eq]; omega), w3]
  have hf : fits x y c r s := ⟨h1.1, h1.2, by omega, by omega, by omega, by omega, by omega⟩
  unfold chkS
  rw [if_pos hf]
  by_cases h8 : (l.length : Int) = c * r
  · rw [if_pos h8, if_pos h8]
    have := ref43_loop x y c r s l hl l.length 0 k (by omega) (by omega)
    rw [List.drop_zero] at this
    exact this
  · rw [if_neg h8, if_neg h8]
theorem cell_lt {c r a b : Int} (ha : 0 ≤ a ∧ a < c) (hb : 0 ≤ b ∧ b < r) : 0 ≤ b * c + a ∧ b * c + a < c * r ∧ 0 ≤ b * c := by
  have h1 : 0 ≤ b * c := Int.mul_nonneg hb.1 (by omega)
  have h2 : b * c ≤ (r - 1) * c := Int.mul_le_mul_of_nonneg_right (by omega) (by omega)
  rw [Int.sub_mul, Int.mul_comm r c] at h2
  omega
theorem there_eq (x y c r s : Int) (l : List Int) (a b : Int) : mapsheetsref43_there.f x y c r s l a b = some (decide ((0 ≤ a ∧ a < c) ∧ (0 ≤ b ∧ b < r))) := by
  unfold mapsheetsref43_there.f
  by_cases h1 : a ≥ 0
  case neg => rw [if_neg h1, decide_eq_false (by omega)]
  rw [if_pos h1]
  by_cases h2 : a < c
  case neg => rw [if_neg h2, decide_eq_false (by omega)]
  rw [if_pos h2]
  by_cases h3 : b ≥ 0
  case neg => rw [if_neg h3, decide_eq_false (by omega)]
  rw [if_pos h3]; congr 1; rw [decide_eq_decide]; omega
end Go.Proofs.Ytachglfhgcdobaa.PAll
end
section
namespace Go.Proofs.Ytachglfhgcdobaa.PAll
open Go.RowKit Go.Proofs.YtachglfhgcdobaaW.PrintWords Go.Proofs.YtachglfhgcdobaaW.PrintLast
set_option linter.unusedVariables false
def hgt (l : List Int) (c x y : Int) : Int := rd l (y * c + x)
def rowS (l : List Int) (c q : Int) : List Int := (l.take ((q + 1) * c).toNat).drop (q * c).toNat
theorem rd_part (l : List Int) (A B i : Nat) (h : A + i < B) (hB : B ≤ l.length) : rd ((l.take B).drop A) (i : Int) = rd l ((A + i : Nat) : Int) := by
  rw [rd_get _ i (by rw [List.length_drop, List.length_take]; omega), rd_get l (A + i) (by omega), List.getElem_drop, List.getElem_take]
section
set_option linter.unusedSectionVars false
variable {x y c r s : Int} {l : List Int} (hf : fits x y c r s) (hn : (l.length : Int) = c * r)
include hf hn
theorem row_ends {q : Int} (hq : 0 ≤ q ∧ q < r) : 0 ≤ q * c ∧ (q + 1) * c = q * c + c ∧ (q + 1) * c ≤ l.length ∧ (l.length : Int) ≤ 4096 := by
  have h := cell_lt (c := c) (r := r) (a := c - 1) (b := q) (by have := hf.2.2.1; omega) hq
  have e : (q + 1) * c = q * c + c := by rw [Int.add_mul, Int.one_mul]
  have p3 := area_le hf.2.2.1 hf.2.2.2.1
  omega
theorem row_eq {q : Int} (hq : 0 ≤ q ∧ q < r) : terrain_row.f x y c r s l q = some (rowS l c q) := by
  obtain ⟨h1, h2, h3, h4⟩ := row_ends hf hn hq
  have hc := hf.2.2.1
  have hr := hf.2.2.2.1
  unfold terrain_row.f rowS
  rw [w64 (x := q + 1) (by omega), w64 (x := q * c) (by omega), w64 (x := (q + 1) * c) (by omega), if_pos (by omega), if_pos (by omega), if_pos (by omega)]
theorem rowS_len {q : Int} (hq : 0 ≤ q ∧ q < r) : ((rowS l c q).length : Int) = c := by
  obtain ⟨h1, h2, h3, h4⟩ := row_ends hf hn hq
  have hc := hf.2.2.1
  unfold rowS
  rw [List.length_drop, List.length_take]; omega
theorem rowS_rd {q p : Int} (hq : 0 ≤ q ∧ q < r) (hp : 0 ≤ p ∧ p < c) : rd (rowS l c q) p = hgt l c p q := by
  obtain ⟨h1, h2, h3, h4⟩ := row_ends hf hn hq
  obtain ⟨n, rfl⟩ : ∃ n : Nat, p = n := ⟨p.toNat, by omega⟩
  unfold rowS hgt
  rw [rd_part l _ _ n (by omega) (by omega)]
  congr 1; omega
end
end Go.Proofs.Ytachglfhgcdobaa.PAll
end
section
namespace Go.Proofs.Ytachglfhgcdobaa.PAll
open Go.RowKit Go.Proofs.YtachglfhgcdobaaW.PrintWords Go.Proofs.YtachglfhgcdobaaW.PrintLast
set_option linter.unusedVariables false
def peakP (l : List Int) (c r p q : Int) : Prop := ∀ p' q' : Int, (0 ≤ p' ∧ p' < c) → (0 ≤ q' ∧ q' < r) → (p - 1 ≤ p' ∧ p' ≤ p + 1) → (q - 1 ≤ q' ∧ q' ≤ q + 1) → ¬ (p' = p ∧ q' = q) → hgt l c p' q' < hgt l c p q
open Classical in
noncomputable def peakB (l : List Int) (c r p q : Int) : Bool := decide (peakP l c r p q)
open Classical in
theorem peakB_pos {l : List Int} {c r p q : Int} (h : peakP l c r p q) : peakB l c r p q = true := decide_eq_true h
open Classical in
theorem peakB_neg {l : List Int} {c r p q : Int} (h : ¬ peakP l c r p q) : peakB l c r p q = false := decide_eq_false h
theorem tpeak_in (p q top x8 x y c r s : Int) (l ys : List Int) (hy : ys.length ≤ 64) : ∀ (m j k : Nat), j + m = ys.length →
    ((∀ i : Nat, j ≤ i → i < ys.length → rd ys (i : Int) ≥ top → x8 = q ∧ wrap64 (mx (wrap64 (p - 1)) 0 + (i : Int)) = p) → terrain_peak.l1 (k + m + 1) p q top x8 ys (ys.length : Int) (j : Int) x y c r s l = terrain_peak.l0 k p q top (wrap64 (x8 + 1)) x y c r s l) ∧
    ((∃ i : Nat, j ≤ i ∧ i < ys.length ∧ rd ys (i : Int) ≥ top ∧ ¬ (x8 = q ∧ wrap64 (mx (wrap64 (p - 1)) 0 + (i : Int)) = p)) → terrain_peak.l1 (k + m + 1) p q top x8 ys (ys.length : Int) (j : Int) x y c r s l = some false)
  | 0, j, k, hj => by
    refine ⟨fun _ => ?_, fun ⟨i, h1, h2, _⟩ => by omega⟩
    rw [Nat.add_zero, terrain_peak.l1, if_neg (by omega)]
  | m + 1, j, k, hj => by
    have hw : wrap64 ((j : Int) + 1) = ((j + 1 : Nat) : Int) := by rw [w64 (by omega)]; omega
    obtain ⟨ih1, ih2⟩ := tpeak_in p q top x8 x y c r s l ys hy m (j + 1) k (by omega)
    rw [show k + (m + 1) + 1 = (k + m + 1) + 1 by omega, terrain_peak.l1, if_pos (by omega), if_pos (by omega), if_pos (by omega), hw]
    by_cases ht : rd ys (j : Int) ≥ top
    · rw [if_pos ht]
      by_cases h1 : x8 = q
      · rw [if_pos h1]
        by_cases h2 : wrap64 (mx (wrap64 (p - 1)) 0 + (j : Int)) = p
        · rw [if_pos h2]
          refine ⟨fun h => ih1 (fun i a b => h i (by omega) b), fun ⟨i, a, b, g⟩ => ih2 ⟨i, ?_, b, g⟩⟩
          rcases Nat.eq_or_lt_of_le a with e | e
          · subst e; exact absurd ⟨h1, h2⟩ g.2
          · exact e
        · rw [if_neg h2]
          exact ⟨fun h => absurd (h j (Nat.le_refl _) (by omega) ht).2 h2, fun _ => rfl⟩
      · rw [if_neg h1]
        exact ⟨fun h => absurd (h j (Nat.le_refl _) (by omega) ht).1 h1, fun _ => rfl⟩
    · rw [if_neg ht]
      refine ⟨fun h => ih1 (fun i a b => h i (by omega) b), fun ⟨i, a, b, g⟩ => ih2 ⟨i, ?_, b, g⟩⟩
      rcases Nat.eq_or_lt_of_le a with e | e
      · subst e; exact absurd g.1 ht
      · exact e
section
set_option linter.unusedSectionVars false
variable {x y c r s : Int} {l : List Int} (hf : fits x y c r s) (hn : (l.length : Int) = c * r) {p q : Int} (hp : 0 ≤ p ∧ p < c) (hq : 0 ≤ q ∧ q < r)
include hf hn hp hq
def badRow (l : List Int) (c p q top q' : Int) : Prop := ∃ p' : Int, (0 ≤ p' ∧ p' < c) ∧ (p - 1 ≤ p' ∧ p' ≤ p + 1) ∧ hgt l c p' q' ≥ top ∧ ¬ (p' = p ∧ q' = q)
theorem tpeak_rows (top : Int) : ∀ (n : Nat) (x8 : Int) (k : Nat), 0 ≤ x8 → x8 + n = mn (q + 1) (r - 1) + 1 → n * 67 + 1 ≤ k →
    ((∀ q', x8 ≤ q' → q' ≤ q + 1 → q' < r → ¬ badRow l c p q top q') → terrain_peak.l0 k p q top x8 x y c r s l = some true) ∧
    ((∃ q', x8 ≤ q' ∧ q' ≤ q + 1 ∧ q' < r ∧ badRow l c p q top q') → terrain_peak.l0 k p q top x8 x y c r s l = some false)
  | 0, x8, k, h0, hx, hk => by
    have hc := hf.2.2.1
    have hr := hf.2.2.2.1
    have hm : mn (q + 1) (r - 1) = if r - 1 < q + 1 then r - 1 else q + 1 := rfl
    obtain ⟨k, rfl⟩ : ∃ j, k = j + 1 := ⟨k - 1, by omega⟩
    rw [terrain_peak.l0, w64 (x := q + 1) (by omega), w64 (x := r - 1) (by omega), if_neg (by omega)]
    exact ⟨fun _ => rfl, fun ⟨q', a, b, d, _⟩ => by split at hm <;> omega⟩
  | n + 1, x8, k, h0, hx, hk => by
    have hc := hf.2.2.1
    have hr := hf.2.2.2.1
    have hm : mn (q + 1) (r - 1) = if r - 1 < q + 1 then r - 1 else q + 1 := rfl
    have hx8 : x8 ≤ q + 1 ∧ x8 < r := by split at hm <;> omega
    obtain ⟨k, rfl⟩ : ∃ j, k = j + 1 := ⟨k - 1, by omega⟩
    obtain ⟨lo, hlo⟩ : ∃ z, z = mx (p - 1) 0 := ⟨_, rfl⟩
    obtain ⟨hi, hhi⟩ : ∃ z, z = mn (p + 2) c := ⟨_, rfl⟩
    have hlo' : lo = if p - 1 < 0 then 0 else p - 1 := hlo
    have hhi' : hi = if c < p + 2 then c else p + 2 := hhi
    have hl1 : 0 ≤ lo ∧ p - 1 ≤ lo ∧ lo ≤ p ∧ (lo = 0 ∨ lo = p - 1) := by split at hlo' <;> omega
    have hh1 : p < hi ∧ hi ≤ c ∧ hi ≤ p + 2 ∧ (hi = c ∨ hi = p + 2) := by split at hhi' <;> omega
    have hlen := rowS_len hf hn (q := x8) (by omega)
    rw [terrain_peak.l0, w64 (x := q + 1) (by omega), w64 (x := r - 1) (by omega), if_pos (by omega), row_eq hf hn (by omega), Option.bind_some, w64 (x := p - 1) (by omega), w64 (x := p + 2) (by omega), ← hlo, ← hhi, if_pos (by omega), if_pos (by omega), if_pos (by omega), Option.bind_some]
    obtain ⟨ys, hys⟩ : ∃ ys, ys = ((rowS l c x8).take hi.toNat).drop lo.toNat := ⟨_, rfl⟩
    rw [← hys]
    have hyl : ys.length = hi.toNat - lo.toNat := by rw [hys, List.length_drop, List.length_take]; omega
    have hrd : ∀ i : Nat, i < ys.length → rd ys (i : Int) = hgt l c (lo + i) x8 := by
      intro i hi'
      rw [hys, rd_part _ _ _ i (by omega) (by omega), rowS_rd hf hn (by omega) (by omega)]
      congr 1; omega
    obtain ⟨i1, i2⟩ := tpeak_in p q top x8 x y c r s l ys (by omega) ys.length 0 (k - ys.length - 1) (by omega)
    rw [show k - ys.length - 1 + ys.length + 1 = k by omega, show ((0 : Nat) : Int) = 0 from rfl, w64 (x := p - 1) (by omega), ← hlo] at i1 i2
    rw [w64 (x := x8 + 1) (by omega)] at i1
    obtain ⟨r1, r2⟩ := tpeak_rows top n (x8 + 1) (k - ys.length - 1) (by omega) (by omega) (by omega)
    have hbad : badRow l c p q top x8 ↔ ∃ i : Nat, 0 ≤ i ∧ i < ys.length ∧ rd ys (i : Int) ≥ top ∧ ¬ (x8 = q ∧ wrap64 (lo + (i : Int)) = p) := by
      constructor
      · rintro ⟨p', a, b, d, e⟩
        refine ⟨(p' - lo).toNat, Nat.zero_le _, by omega, ?_, ?_⟩
        · rw [hrd _ (by omega), show lo + (((p' - lo).toNat : Nat) : Int) = p' by omega]; exact d
        · rw [w64 (by omega)]; intro h; exact e ⟨by omega, h.1⟩
      · rintro ⟨i, _, b, d, e⟩
        rw [hrd i b] at d
        exact ⟨lo + i, by omega, by omega, d, fun h => e ⟨h.2, by rw [w64 (by omega)]; exact h.1⟩⟩
    by_cases hb : badRow l c p q top x8
    · refine ⟨fun h => absurd hb (h x8 (Int.le_refl _) hx8.1 hx8.2), fun _ => i2 (hbad.1 hb)⟩
    · have hnb : ∀ i : Nat, 0 ≤ i → i < ys.length → rd ys (i : Int) ≥ top → x8 = q ∧ wrap64 (lo + (i : Int)) = p := by
        intro i a b d
        by_cases hc' : x8 = q ∧ wrap64 (lo + (i : Int)) = p
        · exact hc'
        · exact absurd (hbad.2 ⟨i, a, b, d, hc'⟩) hb
      rw [i1 hnb]
      refine ⟨fun h => r1 (fun q' a b d => h q' (by omega) b d), fun ⟨q', a, b, d, e⟩ => r2 ⟨q', ?_, b, d, e⟩⟩
      by_cases he : q' = x8
      · subst he; exact absurd e hb
      · omega
theorem terrain_peak_eq (k : Nat) (hk : 300 ≤ k) : terrain_peak.f k x y c r s l p q = some (peakB l c r p q) := by
  have hc := hf.2.2.1
  have hr := hf.2.2.2.1
  unfold terrain_peak.f
  rw [row_eq hf hn hq, Option.bind_some, rowS_len hf hn hq, if_pos (by omega), if_pos (by omega), rowS_rd hf hn hq hp, w64 (x := q - 1) (by omega)]
  obtain ⟨lo, hlo⟩ : ∃ z, z = mx (q - 1) 0 := ⟨_, rfl⟩
  have hlo' : lo = if q - 1 < 0 then 0 else q - 1 := hlo
  have hm : mn (q + 1) (r - 1) = if r - 1 < q + 1 then r - 1 else q + 1 := rfl
  have hl1 : 0 ≤ lo ∧ q - 1 ≤ lo ∧ lo ≤ q ∧ (lo = 0 ∨ lo = q - 1) := by split at hlo' <;> omega
  have hm1 : q ≤ mn (q + 1) (r - 1) ∧ mn (q + 1) (r - 1) ≤ q + 1 := by split at hm <;> omega
  obtain ⟨r1, r2⟩ := tpeak_rows hf hn hp hq (hgt l c p q) (mn (q + 1) (r - 1) + 1 - lo).toNat lo k (by omega) (by omega) (by omega)
  rw [← hlo]
  by_cases h : peakP l c r p q
  · rw [peakB_pos h]
    exact r1 (fun q' a b d ⟨p', e1, e2, e3, e4⟩ => by have := h p' q' e1 (by omega) e2 (by omega) e4; omega)
  · rw [peakB_neg h]
    refine r2 (Classical.byContradiction fun hc' => h ?_)
    intro p' q' a1 a2 a3 a4 a5
    refine Int.not_le.1 fun hle => hc' ⟨q', by omega, a4.2, a2.2, p', a1, a3, hle, a5⟩
def fineAt (l : List Int) (c r p q p' q' : Int) : Prop := (0 ≤ p' ∧ p' < c) → (0 ≤ q' ∧ q' < r) → ¬ (p' = p ∧ q' = q) → hgt l c p' q' < hgt l c p q
theorem rpeak_in (p' : Int) (hp' : p - 1 ≤ p' ∧ p' ≤ p + 1) : ∀ (n : Nat) (x8 : Int) (k : Nat), x8 + n = q + 2 → q - 1 ≤ x8 →
    ((∀ q', x8 ≤ q' → q' ≤ q + 1 → fineAt l c r p q p' q') → mapsheetsref43_peak.l1 (k + n + 1) p q p' x8 x y c r s l = mapsheetsref43_peak.l0 k p q (p' + 1) x y c r s l) ∧
    ((∃ q', x8 ≤ q' ∧ q' ≤ q + 1 ∧ ¬ fineAt l c r p q p' q') → mapsheetsref43_peak.l1 (k + n + 1) p q p' x8 x y c r s l = some false)
  | 0, x8, k, hx, h8 => by
    have hc := hf.2.2.1
    have hr := hf.2.2.2.1
    rw [Nat.add_zero, mapsheetsref43_peak.l1, w64 (x := q + 1) (by omega), if_neg (by omega), w64 (x := p' + 1) (by omega)]
    exact ⟨fun _ => rfl, fun ⟨q', a, b, _⟩ => by omega⟩
  | n + 1, x8, k, hx, h8 => by
    have hc := hf.2.2.1
    have hr := hf.2.2.2.1
    have ar := area_le hc hr
    obtain ⟨ih1, ih2⟩ := rpeak_in p' hp' n (x8 + 1) k (by omega) (by omega)
    rw [show k + (n + 1) + 1 = (k + n + 1) + 1 by omega, mapsheetsref43_peak.l1, w64 (x := q + 1) (by omega), if_pos (by omega), there_eq, Option.bind_some, w64 (x := x8 + 1) (by omega)]
    have next : fineAt l c r p q p' x8 → ((∀ q', x8 ≤ q' → q' ≤ q + 1 → fineAt l c r p q p' q') → mapsheetsref43_peak.l1 (k + n + 1) p q p' (x8 + 1) x y c r s l = mapsheetsref43_peak.l0 k p q (p' + 1) x y c r s l) ∧
        ((∃ q', x8 ≤ q' ∧ q' ≤ q + 1 ∧ ¬ fineAt l c r p q p' q') → mapsheetsref43_peak.l1 (k + n + 1) p q p' (x8 + 1) x y c r s l = some false) := by
      intro hfine
      refine ⟨fun h => ih1 (fun q' a b => h q' (by omega) b), fun ⟨q', a, b, e⟩ => ih2 ⟨q', ?_, b, e⟩⟩
      by_cases he : q' = x8
      · subst he; exact absurd hfine e
      · omega
    by_cases ht : (0 ≤ p' ∧ p' < c) ∧ (0 ≤ x8 ∧ x8 < r)
    case neg =>
      rw [if_neg (by rw [decide_eq_true_eq]; exact ht)]
      exact next (fun a b => absurd ⟨a, b⟩ ht)
    rw [if_pos (decide_eq_true ht)]
    have q1 := cell_lt ht.1 ht.2
    have q2 := cell_lt hp hq
    have e1 : wrap64 (wrap64 (x8 * c) + p') = x8 * c + p' := by rw [w64 (x := x8 * c) (by omega), w64 (by omega)]
    have e2 : wrap64 (wrap64 (q * c) + p) = q * c + p := by rw [w64 (x := q * c) (by omega), w64 (by omega)]
    have test : ¬ (p' = p ∧ x8 = q) → ((∀ q', x8 ≤ q' → q' ≤ q + 1 → fineAt l c r p q p' q') → (if rd l (x8 * c + p') ≥ rd l (q * c + p) then some false else mapsheetsref43_peak.l1 (k + n + 1) p q p' (x8 + 1) x y c r s l) = mapsheetsref43_peak.l0 k p q (p' + 1) x y c r s l) ∧
        ((∃ q', x8 ≤ q' ∧ q' ≤ q + 1 ∧ ¬ fineAt l c r p q p' q') → (if rd l (x8 * c + p') ≥ rd l (q * c + p) then some false else mapsheetsref43_peak.l1 (k + n + 1) p q p' (x8 + 1) x y c r s l) = some false) := by
      intro hne
      by_cases hge : rd l (x8 * c + p') ≥ rd l (q * c + p)
      · rw [if_pos hge]
        refine ⟨fun h => ?_, fun _ => rfl⟩
        have := h x8 (Int.le_refl _) (by omega) ht.1 ht.2 hne
        unfold hgt at this; omega
      · rw [if_neg hge]
        exact next (fun _ _ _ => by unfold hgt; omega)
    rw [e1, e2]
    by_cases hs : p' = p
    · rw [if_pos hs]
      by_cases hs2 : x8 = q
      · rw [if_pos hs2]; exact next (fun _ _ h => absurd ⟨hs, hs2⟩ h)
      · rw [if_neg hs2, if_pos (by omega), if_pos (by omega), if_pos (by omega), if_pos (by omega)]
        exact test (fun h => hs2 h.2)
    · rw [if_neg hs, if_pos (by omega), if_pos (by omega), if_pos (by omega), if_pos (by omega)]
      exact test (fun h => hs h.1)
theorem rpeak_cols : ∀ (n : Nat) (p' : Int) (k : Nat), p' + n = p + 2 → p - 1 ≤ p' → n * 5 + 1 ≤ k →
    ((∀ p'' q', p' ≤ p'' → p'' ≤ p + 1 → q - 1 ≤ q' → q' ≤ q + 1 → fineAt l c r p q p'' q') → mapsheetsref43_peak.l0 k p q p' x y c r s l = some true) ∧
    ((∃ p'' q', p' ≤ p'' ∧ p'' ≤ p + 1 ∧ q - 1 ≤ q' ∧ q' ≤ q + 1 ∧ ¬ fineAt l c r p q p'' q') → mapsheetsref43_peak.l0 k p q p' x y c r s l = some false)
  | 0, p', k, hx, h8, hk => by
    have hc := hf.2.2.1
    have hr := hf.2.2.2.1
    obtain ⟨k, rfl⟩ : ∃ j, k = j + 1 := ⟨k - 1, by omega⟩
    rw [mapsheetsref43_peak.l0, w64 (x := p + 1) (by omega), if_neg (by omega)]
    exact ⟨fun _ => rfl, fun ⟨p'', q', a, b, _⟩ => by omega⟩
  | n + 1, p', k, hx, h8, hk => by
    have hc := hf.2.2.1
    have hr := hf.2.2.2.1
    obtain ⟨k, rfl⟩ : ∃ j, k = j + 1 := ⟨k - 1, by omega⟩
    rw [mapsheetsref43_peak.l0, w64 (x := p + 1) (by omega), if_pos (by omega), w64 (x := q - 1) (by omega)]
    obtain ⟨i1, i2⟩ := rpeak_in hf hn hp hq p' (by omega) 3 (q - 1) (k - 4) (by omega) (by omega)
    rw [show k - 4 + 3 + 1 = k by omega] at i1 i2
    obtain ⟨r1, r2⟩ := rpeak_cols n (p' + 1) (k - 4) (by omega) (by omega) (by omega)
    by_cases hb : ∃ q', q - 1 ≤ q' ∧ q' ≤ q + 1 ∧ ¬ fineAt l c r p q p' q'
    · obtain ⟨q', a, b, e⟩ := hb
      exact ⟨fun h => absurd (h p' q' (Int.le_refl _) (by omega) a b) e, fun _ => i2 ⟨q', a, b, e⟩⟩
    · have hall : ∀ q', q - 1 ≤ q' → q' ≤ q + 1 → fineAt l c r p q p' q' := fun q' a b => Classical.byContradiction fun e => hb ⟨q', a, b, e⟩
      rw [i1 hall]
      refine ⟨fun h => r1 (fun p'' q' a => h p'' q' (by omega)), fun ⟨p'', q', a, b, d, e, g⟩ => r2 ⟨p'', q', ?_, b, d, e, g⟩⟩
      by_cases he : p'' = p'
      · subst he; exact absurd (hall q' d e) g
      · omega
theorem ref43_peak_eq (k : Nat) (hk : 300 ≤ k) : mapsheetsref43_peak.f k x y c r s l p q = some (peakB l c r p q) := by
  have hc := hf.2.2.1
  unfold mapsheetsref43_peak.f
  rw [w64 (x := p - 1) (by omega)]
  obtain ⟨r1, r2⟩ := rpeak_cols hf hn hp hq 3 (p - 1) k (by omega) (by omega) (by omega)
  by_cases h : peakP l c r p q
  · rw [peakB_pos h]
    exact r1 (fun p'' q' a b d e f1 f2 f3 => h p'' q' f1 f2 (by omega) (by omega) f3)
  · rw [peakB_neg h]
    refine r2 (Classical.byContradiction fun hc' => h ?_)
    intro p' q' a1 a2 a3 a4 a5
    exact (Classical.byContradiction fun e => hc' ⟨p', q', a3.1, a3.2, a4.1, a4.2, e⟩ : fineAt l c r p q p' q') a1 a2 a5
end
end Go.Proofs.Ytachglfhgcdobaa.PAll
end
section
namespace Go.Proofs.Ytachglfhgcdobaa.PAll
open Go.RowKit Go.Proofs.YtachglfhgcdobaaW.PrintWords Go.Proofs.YtachglfhgcdobaaW.PrintLast
set_option linter.unusedVariables false
noncomputable def pkRow (l : List Int) (c r x y s : Int) (q : Nat) : Nat → Nat → List S23
  | _, 0 => []
  | p, n + 1 => (if peakB l c r (p : Int) (q : Int) = true then [(⟨x + p * s, y + q * s⟩ : S23)] else []) ++ pkRow l c r x y s q (p + 1) n
noncomputable def pkAll (l : List Int) (c r x y s : Int) (C : Nat) : Nat → Nat → List S23
  | _, 0 => []
  | q, n + 1 => pkRow l c r x y s q 0 C ++ pkAll l c r x y s C (q + 1) n
theorem pkRow_len (l : List Int) (c r x y s : Int) (q : Nat) : ∀ n p, (pkRow l c r x y s q p n).length ≤ n
  | 0, p => Nat.le_refl _
  | n + 1, p => by
    have := pkRow_len l c r x y s q n (p + 1)
    rw [pkRow, List.length_append]
    split
    · rw [List.length_singleton]; omega
    · rw [List.length_nil]; omega
theorem pkAll_len (l : List Int) (c r x y s : Int) (C : Nat) : ∀ n q, (pkAll l c r x y s C q n).length ≤ n * C
  | 0, q => by rw [pkAll]; simp
  | n + 1, q => by
    have h1 := pkAll_len l c r x y s C n (q + 1)
    have h2 := pkRow_len l c r x y s q C 0
    rw [pkAll, List.length_append, Nat.add_mul, Nat.one_mul]; omega
noncomputable def peaksS (x y c r s : Int) (l : List Int) : List S23 × Int := if chkS x y c r s l = 0 then (pkAll l c r x y s c.toNat 0 r.toNat, 0) else ([], chkS x y c r s l)
theorem at_le {x s c p : Int} (hx : -1048576 ≤ x ∧ x ≤ 1048576) (hc : 2 ≤ c ∧ c ≤ 64) (hs : 1 ≤ s ∧ s ≤ 1048576) (hp : 0 ≤ p ∧ p < c) : wrap64 (x + wrap64 (p * s)) = x + p * s ∧ 0 ≤ p * s ∧ p * s ≤ (c - 1) * s := by
  have st := steps_le hc hs
  have h0 : 0 ≤ p * s := Int.mul_nonneg hp.1 (by omega)
  have h1 : p * s ≤ (c - 1) * s := Int.mul_le_mul_of_nonneg_right (by omega) (by omega)
  refine ⟨?_, h0, h1⟩
  rw [w64 (x := p * s) (by omega), w64 (by omega)]
section
set_option linter.unusedSectionVars false
variable {x y c r s : Int} {l : List Int} (h0 : chkS x y c r s l = 0) (C R : Nat) (hC : (C : Int) = c) (hR : (R : Int) = r)
include h0 hC hR
theorem tp_row (q : Nat) (hq : q < R) : ∀ (n p : Nat) (acc : List S23) (k : Nat), p + n = C → acc.length + n ≤ 100000 → 300 ≤ k →
    terrain_Peaks.l1 (k + n + 1) acc (q : Int) r (q : Int) c (p : Int) x y c r s l = terrain_Peaks.l0 k (acc ++ pkRow l c r x y s q p n) r ((q + 1 : Nat) : Int) x y c r s l
  | 0, p, acc, k, hp, ha, hk => by
    have hr := (chkS_zero h0).1.2.2.2.1
    rw [Nat.add_zero, terrain_Peaks.l1, if_neg (by omega), pkRow, List.append_nil, show wrap64 ((q : Int) + 1) = ((q + 1 : Nat) : Int) by rw [w64 (by omega)]; omega]
  | n + 1, p, acc, k, hp, ha, hk => by
    obtain ⟨hf, hn, hb⟩ := chkS_zero h0
    have hc := hf.2.2.1
    have hr := hf.2.2.2.1
    have a1 := at_le hf.1 hc hf.2.2.2.2.1 (p := (p : Int)) (by omega)
    have a2 := at_le hf.2.1 hr hf.2.2.2.2.1 (p := (q : Int)) (by omega)
    rw [show k + (n + 1) + 1 = (k + n + 1) + 1 by omega, terrain_Peaks.l1, if_pos (by omega), terrain_peak_eq hf hn (by omega) (by omega) _ (by omega), Option.bind_some, a1.1, a2.1, show wrap64 ((p : Int) + 1) = ((p + 1 : Nat) : Int) by rw [w64 (by omega)]; omega, pkRow]
    cases hpk : peakB l c r (p : Int) (q : Int) with
    | true =>
      rw [if_pos rfl, if_pos (by omega), if_pos rfl, tp_row q hq n (p + 1) _ k (by omega) (by rw [List.length_append, List.length_singleton]; omega) hk, List.append_assoc]
    | false =>
      rw [if_neg (by decide), if_neg (by decide), tp_row q hq n (p + 1) _ k (by omega) (by omega) hk, List.nil_append]
theorem tp_rows : ∀ (n q : Nat) (acc : List S23) (k : Nat), q + n = R → acc.length + n * C ≤ 100000 → 300 ≤ k →
    terrain_Peaks.l0 (k + n * (C + 2) + 1) acc r (q : Int) x y c r s l = some (acc ++ pkAll l c r x y s C q n, 0)
  | 0, q, acc, k, hq, ha, hk => by
    rw [Nat.zero_mul, Nat.add_zero, terrain_Peaks.l0, if_neg (by omega), pkAll, List.append_nil]
  | n + 1, q, acc, k, hq, ha, hk => by
    have e : (n + 1) * (C + 2) = n * (C + 2) + C + 2 := by rw [Nat.add_mul, Nat.one_mul]; omega
    have e2 : (n + 1) * C = n * C + C := by rw [Nat.add_mul, Nat.one_mul]
    rw [e, terrain_Peaks.l0, if_pos (by omega)]
    have := tp_row h0 C R hC hR q (by omega) C 0 acc (k + n * (C + 2) + 1) (by omega) (by omega) (by omega)
    rw [show k + n * (C + 2) + 1 + C + 1 = k + (n * (C + 2) + C + 2) by omega, show ((0 : Nat) : Int) = 0 from rfl] at this
    have hl := pkRow_len l c r x y s q C 0
    rw [this, tp_rows n (q + 1) _ k (by omega) (by rw [List.length_append]; omega) hk, pkAll, List.append_assoc]
theorem rp_row (q : Nat) (hq : q < R) : ∀ (n p : Nat) (acc : List S23) (k : Nat), p + n = C → acc.length + n ≤ 100000 → 300 ≤ k →
    mapsheetsref43_Peaks.l1 (k + n + 1) acc (q : Int) (p : Int) x y c r s l = mapsheetsref43_Peaks.l0 k (acc ++ pkRow l c r x y s q p n) ((q + 1 : Nat) : Int) x y c r s l
  | 0, p, acc, k, hp, ha, hk => by
    have hr := (chkS_zero h0).1.2.2.2.1
    rw [Nat.add_zero, mapsheetsref43_Peaks.l1, if_neg (by omega), pkRow, List.append_nil, show wrap64 ((q : Int) + 1) = ((q + 1 : Nat) : Int) by rw [w64 (by omega)]; omega]
  | n + 1, p, acc, k, hp, ha, hk => by
    obtain ⟨hf, hn, hb⟩ := chkS_zero h0
    have hc := hf.2.2.1
    have hr := hf.2.2.2.1
    have a1 := at_le hf.1 hc hf.2.2.2.2.1 (p := (p : Int)) (by omega)
    have a2 := at_le hf.2.1 hr hf.2.2.2.2.1 (p := (q : Int)) (by omega)
    rw [show k + (n + 1) + 1 = (k + n + 1) + 1 by omega, mapsheetsref43_Peaks.l1, if_pos (by omega), ref43_peak_eq hf hn (by omega) (by omega) _ (by omega), Option.bind_some, mapsheetsref43_at.f, a1.1, a2.1, show wrap64 ((p : Int) + 1) = ((p + 1 : Nat) : Int) by rw [w64 (by omega)]; omega, pkRow]
    cases hpk : peakB l c r (p : Int) (q : Int) with
    | true =>
      rw [if_pos rfl, Option.bind_some, if_pos (by omega), if_pos rfl, rp_row q hq n (p + 1) _ k (by omega) (by rw [List.length_append, List.length_singleton]; omega) hk, List.append_assoc]
    | false =>
      rw [if_neg (by decide), if_neg (by decide), rp_row q hq n (p + 1) _ k (by omega) (by omega) hk, List.nil_append]
theorem rp_rows : ∀ (n q : Nat) (acc : List S23) (k : Nat), q + n = R → acc.length + n * C ≤ 100000 → 300 ≤ k →
    mapsheetsref43_Peaks.l0 (k + n * (C + 2) + 1) acc (q : Int) x y c r s l = some (acc ++ pkAll l c r x y s C q n, 0)
  | 0, q, acc, k, hq, ha, hk => by
    rw [Nat.zero_mul, Nat.add_zero, mapsheetsref43_Peaks.l0, if_neg (by omega), pkAll, List.append_nil]
  | n + 1, q, acc, k, hq, ha, hk => by
    have e : (n + 1) * (C + 2) = n * (C + 2) + C + 2 := by rw [Nat.add_mul, Nat.one_mul]; omega
    have e2 : (n + 1) * C = n * C + C := by rw [Nat.add_mul, Nat.one_mul]
    rw [e, mapsheetsref43_Peaks.l0, if_pos (by omega)]
    have := rp_row h0 C R hC hR q (by omega) C 0 acc (k + n * (C + 2) + 1) (by omega) (by omega) (by omega)
    rw [show k + n * (C + 2) + 1 + C + 1 = k + (n * (C + 2) + C + 2) by omega, show ((0 : Nat) : Int) = 0 from rfl] at this
    have hl := pkRow_len l c r x y s q C 0
    rw [this, rp_rows n (q + 1) _ k (by omega) (by rw [List.length_append]; omega) hk, pkAll, List.append_assoc]
end
theorem grid_le {C R : Nat} (hC : C ≤ 64) (hR : R ≤ 64) : R * C ≤ 4096 ∧ R * (C + 2) ≤ 4224 :=
  ⟨Nat.mul_le_mul hR hC, Nat.mul_le_mul hR (show C + 2 ≤ 66 by omega)⟩
theorem terrain_Peaks_eq (x y c r s : Int) (l : List Int) (hl : l.length ≤ 4200) (k : Nat) (hk : 9000 ≤ k) : terrain_Peaks.f k x y c r s l = some (peaksS x y c r s l) := by
  unfold terrain_Peaks.f peaksS
  rw [terrain_Check_eq x y c r s l hl k (by omega), Option.bind_some]
  by_cases h0 : chkS x y c r s l = 0
  case neg => rw [if_neg h0, if_neg h0]
  have hf := (chkS_zero h0).1
  have hc := hf.2.2.1
  have hr := hf.2.2.2.1
  have hle := grid_le (C := c.toNat) (R := r.toNat) (by omega) (by omega)
  rw [if_pos h0, if_pos h0]
  have := tp_rows h0 c.toNat r.toNat (by omega) (by omega) r.toNat 0 [] (k - (r.toNat * (c.toNat + 2) + 1)) (by omega) (by rw [List.length_nil]; omega) (by omega)
  rw [show k - (r.toNat * (c.toNat + 2) + 1) + r.toNat * (c.toNat + 2) + 1 = k by omega] at this
  exact this
theorem ref43_Peaks_eq (x y c r s : Int) (l : List Int) (hl : l.length ≤ 4200) (k : Nat) (hk : 9000 ≤ k) : mapsheetsref43_Peaks.f k x y c r s l = some (peaksS x y c r s l) := by
  unfold mapsheetsref43_Peaks.f peaksS
  rw [ref43_Check_eq x y c r s l hl k (by omega), Option.bind_some]
  by_cases h0 : chkS x y c r s l = 0
  case neg => rw [if_neg h0, if_neg h0]
  have hf := (chkS_zero h0).1
  have hc := hf.2.2.1
  have hr := hf.2.2.2.1
  have hle := grid_le (C := c.toNat) (R := r.toNat) (by omega) (by omega)
  rw [if_pos h0, if_pos h0]
  have := rp_rows h0 c.toNat r.toNat (by omega) (by omega) r.toNat 0 [] (k - (r.toNat * (c.toNat + 2) + 1)) (by omega) (by rw [List.length_nil]; omega) (by omega)
  rw [show k - (r.toNat * (c.toNat + 2) + 1) + r.toNat * (c.toNat + 2) + 1 = k by omega] at this
  exact this
theorem same43_loop (l : List S23) (hl : l.length ≤ 100000) : ∀ (m i k : Nat), i + m = l.length → m + 1 ≤ k → mapsheetsref43_Same.l0 k l l (i : Int) = some true
  | 0, i, k, hi, hk => by
    obtain ⟨k, rfl⟩ : ∃ j, k = j + 1 := ⟨k - 1, by omega⟩
    rw [mapsheetsref43_Same.l0, if_neg (by omega)]
  | m + 1, i, k, hi, hk => by
    obtain ⟨k, rfl⟩ : ∃ j, k = j + 1 := ⟨k - 1, by omega⟩
    rw [mapsheetsref43_Same.l0, if_pos (by omega), if_pos (by omega), if_pos (by omega), beq_self_eq_true, beq_self_eq_true, if_neg (by decide), show wrap64 ((i : Int) + 1) = ((i + 1 : Nat) : Int) by rw [w64 (by omega)]; omega]
    exact same43_loop l hl m (i + 1) k (by omega) (by omega)
theorem same43_eq (l : List S23) (hl : l.length ≤ 100000) (k : Nat) (hk : 100002 ≤ k) : mapsheetsref43_Same.f k l l = some true := by
  unfold mapsheetsref43_Same.f
  rw [if_pos rfl]
  exact same43_loop l hl l.length 0 k (by omega) (by omega)
theorem peaksS_len (x y c r s : Int) (l : List Int) : (peaksS x y c r s l).1.length ≤ 4096 := by
  unfold peaksS
  by_cases h0 : chkS x y c r s l = 0
  · have hf := (chkS_zero h0).1
    have hc := hf.2.2.1
    have hr := hf.2.2.2.1
    have hle := grid_le (C := c.toNat) (R := r.toNat) (by omega) (by omega)
    rw [if_pos h0]
    exact Nat.le_trans (pkAll_len _ _ _ _ _ _ _ _ _) hle.1
  · rw [if_neg h0]; exact Nat.zero_le _
end Go.Proofs.Ytachglfhgcdobaa.PAll
end
section
namespace Go.Proofs.Ytachglfhgcdobaa.Pure
open Go.RowKit Go.Proofs.Ytachglfhgcdobaa.PAll Go.Proofs.YtachglfhgcdobaaW.PrintWords Go.Proofs.YtachglfhgcdobaaW.PrintLast
theorem TerrainPeaks : mapsheetslaw43_TerrainPeaks.Pure := by
  intro x y c r s l w1 w2 w3 w4 w5 w6 w7
  suffices h : ∀ k, 200000 ≤ k → mapsheetslaw43_TerrainPeaks.f k x y c r s l = some true from ⟨200000, h _ (Nat.le_refl _)⟩
  intro k hk
  unfold mapsheetslaw43_TerrainPeaks.f
  rw [light_eq, Option.bind_some]
  by_cases hl' : (l.length : Int) ≤ 4200
  · have hl : l.length ≤ 4200 := by omega
    have hlen := peaksS_len x y c r s l
    rw [if_pos (decide_eq_true hl'), terrain_Peaks_eq x y c r s l hl k (by omega), Option.bind_some, ref43_Peaks_eq x y c r s l hl k (by omega), Option.bind_some, awake_eq k (by omega), Option.bind_some, if_pos rfl, same43_eq _ (by omega) k (by omega), Option.bind_some, if_pos rfl, beq_self_eq_true]
  · rw [if_neg (by rw [decide_eq_true_eq]; exact hl'), awake_eq k (by omega), Option.bind_some]
end Go.Proofs.Ytachglfhgcdobaa.Pure
end
section
namespace Go.Proofs.YtachglfhgcdobaaOpen
open Go.RowKit Go.Proofs.YtachglfhgcdobaaW.PrintWords
set_option linter.unusedVariables false
theorem choose_list {α : Type} {Q : Nat → α → Prop} : ∀ n, (∀ i, i < n → ∃ x, Q i x) → ∃ xs : List α, xs.length = n ∧ ∀ (i : Nat) (x : α), xs[i]? = some x → Q i x
  | 0, _ => ⟨[], rfl, fun i x h => by simp at h⟩
  | n + 1, h => by
    obtain ⟨xs, hl, hq⟩ := choose_list n (fun i hi => h i (by omega))
    obtain ⟨x, hx⟩ := h n (by omega)
    refine ⟨xs ++ [x], by simp [hl], fun i y hy => ?_⟩
    rcases Nat.lt_or_ge i xs.length with hlt | hge
    · rw [List.getElem?_append_left hlt] at hy; exact hq i y hy
    · rw [List.getElem?_append_right hge] at hy
      have : i - xs.length = 0 := by
        rcases Nat.eq_zero_or_pos (i - xs.length) with h0 | h0
        · exact h0
        · rw [List.getElem?_eq_none (by simp; omega)] at hy; cases hy
      rw [this] at hy
      simp at hy
      subst hy
      have : i = n := by omega
      subst this
      exact hx
def Opens {α : Type} (P : Program) (t : TypeId) (d : Kd α) (wf : α → Prop) : Prop :=
  ∀ (H : Type) (enc : TypeId × Value → H) (W : World) (fuel : Nat) (cs : List Value) (dd : DataW H) (ps : List MemPlace),
    DataW.trod enc P W 0 (fun _ => true) true fuel t cs = some (dd, ps) → (∀ n ∈ dd.weights P t, n ≤ reachBytes) → ∃ x, d.K W x cs ∧ wf x
section
variable {P : Program} {t : TypeId}
theorem Opens.int {k : IntKind} (hu : P.underlying t = some (.int k)) : Opens P t (Kd.int k) (fun x => (Lit.int k x).wf = true) := by
  intro H enc W fuel cs dd ps h hz
  obtain ⟨n, rfl, _, hw⟩ := DataW.trod_int hu h
  exact ⟨n, rfl, hw⟩
theorem Opens.bool (hu : P.underlying t = some .bool) : Opens P t Kd.bool (fun _ => True) := by
  intro H enc W fuel cs dd ps h hz
  obtain ⟨n, rfl, _⟩ := DataW.trod_bool hu h
  exact ⟨n, rfl, trivial⟩
theorem Opens.iso {α β : Type} {d : Kd α} {wf : α → Prop} (h : Opens P t d wf) (f : β → α) (g : α → β) (hg : ∀ y, f (g y) = y) : Opens P t (Kd.iso d f) (fun x => wf (f x)) := by
  intro H enc W fuel cs dd ps hh hz
  obtain ⟨x, hK, hw⟩ := h H enc W fuel cs dd ps hh hz
  exact ⟨g x, by show d.K W (f (g x)) cs; rw [hg]; exact hK, by show wf (f (g x)); rw [hg]; exact hw⟩
theorem weightsAll_mem {H : Type} {e : TypeId} : ∀ {ds : List (DataW H)} {d : DataW H}, d ∈ ds → ∀ n ∈ d.weights P e, n ∈ DataW.weightsAll P e ds
  | d0 :: ds, d, hd, n, hn => by
    rw [DataW.weightsAll, List.mem_append]
    rcases List.mem_cons.1 hd with rfl | hd
    · exact .inl hn
    · exact .inr (weightsAll_mem hd n hn)
theorem Opens.slice {α : Type} {d : Kd α} {wf : α → Prop} {e : TypeId} {B : Nat} (hu : P.underlying t = some (.slice e)) (h : Opens P e d wf) (hc : P.cellsOf e = d.sz) (hB : P.bytesOf e = B) :
    Opens P t (Kd.slice e d) (fun xs => xs.length * B ≤ 140737488351232 ∧ ∀ x ∈ xs, wf x) := by
  intro H enc W fuel cs dd ps hh hz
  rcases Deep.open_slice hu hh with ⟨rfl, _⟩ | ⟨a, len, cap, m, n, D, Pl, rfl, _, hl, hm, hmm, hx, hel⟩
  · exact ⟨[], ⟨none, 0, rfl, Nat.le_refl _, rfl, by simp, fun h0 => absurd h0 (by simp)⟩, by simp, by simp⟩
  obtain ⟨rfl, _⟩ := Prod.mk.inj hx
  simp only [if_true] at hmm
  subst hmm
  have hw1 : (len + (m - len)) * P.bytesOf e ≤ reachBytes := hz _ (by simp [DataW.weights, hu])
  have key : ∀ i, i < len → ∃ x, wf x ∧ ∃ c, c.length = d.sz ∧ d.K W x c ∧ ∀ j u, c[j]? = some u → W.cell? (a.add (i * d.sz + j)) = some u := by
    intro i hi
    obtain ⟨cs', h1, h2⟩ := hel i (by omega)
    obtain ⟨x, hK, hw⟩ := h H enc W n cs' (D i) (Pl i) h2 (fun n hn => hz n (by
      simp only [DataW.weights, hu, List.mem_cons, List.mem_append]
      exact .inr (.inl (weightsAll_mem (List.mem_map.2 ⟨i, by simpa using hi, rfl⟩) n hn))))
    obtain ⟨_, hlen, hcell⟩ := World.cells?_some h1
    refine ⟨x, hw, cs', by rw [hlen, hc], hK, fun j u hu' => ?_⟩
    have hj : j < P.cellsOf e := by rw [← hlen]; exact (List.getElem?_eq_some_iff.1 hu').1
    have := hcell j hj
    rw [Addr.add_add, hc] at this
    rw [this, hu']
  obtain ⟨xs, hxl, hxs⟩ := choose_list len key
  subst hxl
  refine ⟨xs, ⟨some a, m, rfl, hl, rfl, by unfold maxLen at hm; omega, fun _ => ⟨a, rfl, fun j p hj => (hxs j p hj).2⟩⟩, ?_, ?_⟩
  · rw [hB] at hw1
    exact Nat.le_trans (Nat.mul_le_mul_right _ (by omega)) hw1
  · intro x hx
    obtain ⟨i, hi⟩ := List.getElem?_of_mem hx
    exact (hxs i x hi).1
def OpensP {α : Type} (P : Program) (o : Nat) (L : List (TypeId × Nat)) (e : Nat) (d : Kd α) (wf : α → Prop) : Prop :=
  ∀ (H : Type) (enc : TypeId × Value → H) (W : World) (n : Nat) (cs : List Value) (xs : List (DataW H × List MemPlace)), cs.length = e → xs.length = L.length →
    (∀ (i : Nat) (f : TypeId × Nat), L[i]? = some f → DataW.trod enc P W 0 (fun _ => true) true n f.1 ((cs.drop f.2).take (P.cellsOf f.1)) = xs[i]?) →
    (∀ k ∈ DataW.weightsEach P (L.map (·.1)) (xs.map (·.1)), k ≤ reachBytes) → ∃ x, d.K W x (cs.drop o) ∧ wf x
theorem OpensP.one {α : Type} {d : Kd α} {wf : α → Prop} {o s e : Nat} (h : Opens P t d wf) (hs : P.cellsOf t = s) (he : o + s = e) : OpensP P o [(t, o)] e d wf := by
  subst he hs
  intro H enc W n cs xs hcs hxs hf hz
  have h1 := hf 0 (t, o) rfl
  rw [List.take_of_length_le (by show (cs.drop o).length ≤ P.cellsOf t; rw [List.length_drop]; omega)] at h1
  rw [List.getElem?_eq_getElem (by rw [hxs]; exact Nat.zero_lt_one)] at h1
  match xs, hxs with
  | [x0], _ =>
    exact h H enc W n _ x0.1 x0.2 (by simpa using h1) (fun k hk => hz k (by simp [DataW.weightsEach, hk]))
theorem OpensP.cons {α β : Type} {d : Kd α} {d2 : Kd β} {wf : α → Prop} {wf2 : β → Prop} {o s o2 e : Nat} {L : List (TypeId × Nat)} (h : Opens P t d wf) (hs : P.cellsOf t = s) (he : o + s = o2) (h2 : OpensP P o2 L e d2 wf2) :
    OpensP P o ((t, o) :: L) e (Kd.pair d d2) (fun x => wf x.1 ∧ wf2 x.2) := by
  subst he hs
  intro H enc W n cs xs hcs hxs hf hz
  match xs, hxs with
  | x0 :: xs, hxs =>
    have h1 := hf 0 (t, o) rfl
    obtain ⟨x, hK, hw⟩ := h H enc W n _ x0.1 x0.2 (by simpa using h1) (fun k hk => hz k (by simp [DataW.weightsEach, hk]))
    obtain ⟨y, hK2, hw2⟩ := h2 H enc W n cs xs hcs (by simpa using hxs) (fun i f hi => by simpa using hf (i + 1) f (by simpa using hi)) (fun k hk => hz k (by simp only [List.map_cons, DataW.weightsEach, List.mem_append]; exact .inr hk))
    refine ⟨(x, y), ⟨_, _, ?_, hK, hK2⟩, hw, hw2⟩
    rw [← List.drop_drop, List.take_append_drop]
theorem Opens.struct {α : Type} {d : Kd α} {wf : α → Prop} {fs : Array Field} {L : List (TypeId × Nat)} {e : Nat} (hu : P.underlying t = some (.struct fs)) (hL : fs.toList.map (fun f => (f.type, f.offset)) = L) (hc : P.cellsOf t = e) (h : OpensP P 0 L e d wf) : Opens P t d wf := by
  intro H enc W fuel cs dd ps hh hz
  obtain ⟨xs, n, rfl, hx, hcs, hxs, hf⟩ := DataW.trod_struct hu hh
  obtain ⟨rfl, _⟩ := Prod.mk.inj hx
  subst hL
  obtain ⟨x, hK, hw⟩ := h H enc W n cs xs (by rw [hcs, hc]) (by simpa using hxs) (fun i f hi => by
    rw [List.getElem?_map, Option.map_eq_some_iff] at hi
    obtain ⟨g, hg, rfl⟩ := hi
    exact hf i g (by simpa using hg)) (fun k hk => hz k (by
      simp only [DataW.weights, hu]
      rw [List.map_map] at hk
      exact hk))
  exact ⟨x, by simpa using hK, hw⟩
theorem okWide_agg_struct {W : World} {r : Reach} {base : Nat} {v : Value} {fs : Array Field} (hu : P.underlying t = some (.struct fs)) (h : Value.okWide P W r base t v) : ∃ cs, v = .agg cs := by
  unfold Value.okWide at h
  rw [hu] at h
  obtain ⟨cs, h, _⟩ := h
  exact ⟨cs, h⟩
theorem weightsEach_rep {H : Type} {e : TypeId} : ∀ (ds : List (DataW H)), DataW.weightsEach P (List.replicate ds.length e) ds = DataW.weightsAll P e ds
  | [] => by simp [DataW.weightsEach, DataW.weightsAll]
  | d :: ds => by rw [List.length_cons, List.replicate_succ, DataW.weightsEach, DataW.weightsAll, weightsEach_rep ds]
theorem Opens.array {α : Type} {d : Kd α} {wf : α → Prop} {n : Nat} {e : TypeId} {L : List (TypeId × Nat)} {z : Nat} (hu : P.underlying t = some (.array n e)) (hL : (List.range n).map (fun i => (e, i * P.cellsOf e)) = L) (hc : P.cellsOf t = z) (h : OpensP P 0 L z d wf) : Opens P t d wf := by
  intro H enc W fuel cs dd ps hh hz
  obtain ⟨xs, m, rfl, hx, hcs, hxs, hf⟩ := DataW.trod_array hu hh
  obtain ⟨rfl, _⟩ := Prod.mk.inj hx
  subst hL
  obtain ⟨x, hK, hw⟩ := h H enc W m cs xs (by rw [hcs, hc]) (by simpa using hxs) (fun i f hi => by
    rw [List.getElem?_map, Option.map_eq_some_iff] at hi
    obtain ⟨g, hg, rfl⟩ := hi
    obtain ⟨hlt, hg⟩ := List.getElem?_eq_some_iff.1 hg
    simp at hg hlt
    subst hg
    exact hf i hlt) (fun k hk => hz k (by
      simp only [DataW.weights, hu]
      rw [List.map_map] at hk
      rw [← weightsEach_rep]
      have : List.map ((fun x => x.1) ∘ fun i => (e, i * P.cellsOf e)) (List.range n) = List.replicate (xs.map (·.1)).length e := by
        rw [List.length_map, hxs]
        apply List.ext_getElem
        · simp
        · intro i h1 h2; simp
      rw [this] at hk
      exact hk))
  exact ⟨x, by simpa using hK, hw⟩
end
end Go.Proofs.YtachglfhgcdobaaOpen
end
section
namespace Go.Proofs.Ytachglfhgcdobaa.terrainPeaks
open Go.ChangeShapes Go.WideShapes Go.ChangeAt Go.RowKit Go.Proofs.YtachglfhgcdobaaOpen Go.Proofs.Ytachglfhgcdobaa.PAll Go.Proofs.YtachglfhgcdobaaW.PrintWords Go.Proofs.YtachglfhgcdobaaW.PrintLast
open Go.ChangeMaps (open_string shut_string)
set_option linter.unusedVariables false
theorem own : ownKnob Try.prog.godebug = none := by kernel_rfl
theorem laidOut : laidOutB Try.prog = true := by kernel_rfl
theorem opens23 : Opens Try.prog 23 k23 wf23 := Opens.iso (Opens.struct (L := [(3, 0), (3, 1)]) (e := 2) Try.underlying23 (by first | rfl | kernel_rfl) (by kernel_rfl) (OpensP.cons (o := 0) (s := 1) (o2 := 1) (Opens.int Try.underlying3) (by kernel_rfl) rfl (OpensP.one (o := 1) (s := 1) (e := 2) (Opens.int Try.underlying3) (by kernel_rfl) rfl))) (fun x : S23 => (x.f0, x.f1)) (fun y => (⟨y.1, y.2⟩ : S23)) (fun _ => rfl)
theorem opens26 : Opens Try.prog 26 k26 wf26 := Opens.iso (Opens.struct (L := [(23, 0), (3, 2), (3, 3), (3, 4), (24, 5)]) (e := 6) Try.underlying26 (by first | rfl | kernel_rfl) (by kernel_rfl) (OpensP.cons (o := 0) (s := 2) (o2 := 2) opens23 (by kernel_rfl) rfl (OpensP.cons (o := 2) (s := 1) (o2 := 3) (Opens.int Try.underlying3) (by kernel_rfl) rfl (OpensP.cons (o := 3) (s := 1) (o2 := 4) (Opens.int Try.underlying3) (by kernel_rfl) rfl (OpensP.cons (o := 4) (s := 1) (o2 := 5) (Opens.int Try.underlying3) (by kernel_rfl) rfl (OpensP.one (o := 5) (s := 1) (e := 6) (Opens.slice (B := 8) Try.underlying24 (Opens.int Try.underlying3) (by kernel_rfl) (by kernel_rfl)) (by kernel_rfl) rfl)))))) (fun x : S26 => (x.f0, x.f1, x.f2, x.f3, x.f4)) (fun y => (⟨y.1, y.2.1, y.2.2.1, y.2.2.2.1, y.2.2.2.2⟩ : S26)) (fun _ => rfl)
set_option maxRecDepth 100000 in
theorem lifted (os : Os) (started : os.Started) (H : Type) (enc : TypeId × Value → H) :
    ReturnsInHanded {} Try.checked os 5 .any (Rows.terrainPeaksSpec.pre6 enc Try.prog Try.f5 Rows.terrainPeaksRow.domain false) (Rows.terrainPeaksSpec.post enc Try.prog Try.f5 false true false false) := by
  refine returnsInHanded_of_change_sized (C := Try.checked) own started (by kernel_rfl) Try.func5
    (ChangeSpec.witness6 (enc := enc) (C := Try.checked) false ⟨#[], #[.agg #[.int .i64 0, .int .i64 0, .int .i64 0, .int .i64 0, .int .i64 0, .slice none 0 0]], []⟩ 8 (by kernel_rfl) (by kernel_rfl) (by kernel_rfl) (by kernel_rfl)) ?_
  intro W base args ds gs before hval0 hW hcnd hsz0 _
  have hsz : (DataW.weightsEach Try.prog (Try.f5.params.toList ++ Rows.terrainPeaksSpec.plain.varTypes Try.prog) (ds ++ gs)).all (· ≤ reachBytes) = true := hsz0
  have hval : ∀ (j : Nat) t v, Try.f5.params[j]? = some t → args[j]? = some v → Value.okWide Try.prog W .any base t v := hval0
  have hW' := hW
  obtain ⟨p, q, hA0, hV, rfl, hfz, hnd⟩ := hW
  have hA : DataW.TrodAll enc Try.prog W 0 (fun _ => true) true Try.f5.params.toList args.toList ds p := hA0
  rw [Try.params5] at hA hval hsz
  obtain ⟨v0, vs0, d0, ds0, p0, q0, hargs, rfl, rfl, h0, r0⟩ := trodAll_cons hA
  obtain ⟨rfl, rfl, rfl⟩ := trodAll_nil r0
  obtain rfl : args = #[v0] := by cases args; simp_all
  obtain ⟨rfl, rfl⟩ := trodVars_none hV
  have k0 := h0
  have lt0 : ∀ x ∈ p0, x.block < W.heap.size := by obtain ⟨m, hm⟩ := k0; exact DataW.trod_lt m _ _ _ hm
  have z0 : ∀ n ∈ d0.weights Try.prog 26, n ≤ reachBytes := fun n hn => by have := List.all_eq_true.1 hsz _ (DataW.weights_mem_each (j := 0) rfl rfl n hn); simpa using this
  obtain ⟨cs0, rfl⟩ := okWide_agg_struct Try.underlying26 (hval 0 26 v0 rfl rfl)
  obtain ⟨fu0, hf0⟩ := h0
  obtain ⟨x0, hK0, hw0⟩ := opens26 _ enc W fu0 _ _ _ hf0 z0
  have o0 := k26_open hK0
  obtain ⟨A0_5, c0_5, e0, hl0_5, hC0_5⟩ := o0
  have e0' : cs0 = #[.int .i64 x0.f0.f0, .int .i64 x0.f0.f1, .int .i64 x0.f1, .int .i64 x0.f2, .int .i64 x0.f3, .slice A0_5 x0.f4.length c0_5] := by apply Array.toList_inj.1; exact e0
  subst e0'
  obtain ⟨⟨hw0_0_0, hw0_0_1⟩, hw0_1, hw0_2, hw0_3, hw0_4⟩ := hw0
  clear hA0 hval0 hsz0 hsz
  obtain ⟨k, hk⟩ := Pure.TerrainPeaks x0.f0.f0 x0.f0.f1 x0.f1 x0.f2 x0.f3 x0.f4 hw0_0_0 hw0_0_1 hw0_1 hw0_2 hw0_3 hw0_4.1 hw0_4.2
  refine (mapsheetslaw43_TerrainPeaks.calls k x0.f0.f0 x0.f0.f1 x0.f1 x0.f2 x0.f3 _ _ x0.f4 true W hC0_5 hl0_5 hk).mono fun e W' ⟨he, bel0⟩ => ?_
  have bel : Below W.heap.size W W' := bel0
  subst he
  exact ⟨_, rfl, _, _, _, [], _, [], hW', trodAll_mk1 (shut_bool Try.underlying4 _), (trodAll_cons_mk (Below.trod laidOut (by kernel_rfl) (of_decide_eq_true (by kernel_rfl)) k0 bel lt0) trodAll_mk0), rfl, bel.frame _, fun h => by cases h⟩
theorem over : Rows.terrainPeaksRow.holds Try.pinned (OpenSpec.ofChange Rows.terrainPeaksSpec) :=
  OpenClaim.holds_of_wide 5 Try.f5 rfl rfl rfl rfl rfl rfl rfl ⟨rfl, rfl, rfl, rfl, rfl⟩ rfl rfl rfl rfl rfl (by kernel_rfl) Try.func5 (by kernel_rfl)
    (of_decide_eq_true (by kernel_rfl)) (by unfold Func.isWrapper; first | (rw [if_pos (by decide +kernel)]; kernel_rfl) | (rw [if_neg (by decide +kernel)]; exact ⟨rfl, rfl⟩))
    (fun os started H enc _ => lifted os started H enc)
theorem proved : Rows.TerrainPeaksSaid := over
#print axioms proved
end Go.Proofs.Ytachglfhgcdobaa.terrainPeaks
namespace Go.Proofs.Ytachglfhgcdobaa
theorem terrainPeaks_holds : Rows.TerrainPeaksSaid := terrainPeaks.proved
end Go.Proofs.Ytachglfhgcdobaa
end
