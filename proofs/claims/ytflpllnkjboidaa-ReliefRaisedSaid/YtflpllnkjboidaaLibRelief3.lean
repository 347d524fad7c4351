/- Plain lemmas on the printed functions: numbers and lists alone, no program and no memory. -/
import Derived.Test.YtflpllnkjboidaaLibRelief2
import Derived.Test.YtflpllnkjboidaaPAllx14
import Derived.Test.YtflpllnkjboidaaPAllx6
import Derived.Test.YtflpllnkjboidaaPAllx7
namespace Go.Proofs.Ytflpllnkjboidaa.PAll
open Go.RowKit Go.Proofs.YtflpllnkjboidaaW.PrintWords Go.Proofs.YtflpllnkjboidaaW.PrintLast
set_option linter.unusedVariables false
/-! ### All -/
def rowL (f : Int → Int → Int) (y : Nat) : Nat → Nat → List Int
  | _, 0 => []
  | x, n + 1 => f (x : Int) (y : Int) :: rowL f y (x + 1) n
def allL (f : Int → Int → Int) (C : Nat) : Nat → Nat → List Int
  | _, 0 => []
  | y, n + 1 => rowL f y 0 C ++ allL f C (y + 1) n
theorem rowL_len (f : Int → Int → Int) (y : Nat) : ∀ n x, (rowL f y x n).length = n
  | 0, _ => rfl
  | n + 1, x => by rw [rowL, List.length_cons, rowL_len f y n]
theorem rowL_congr {f g : Int → Int → Int} {y : Nat} : ∀ n x, (∀ i : Nat, x ≤ i → i < x + n → f (i : Int) (y : Int) = g (i : Int) (y : Int)) → rowL f y x n = rowL g y x n
  | 0, _, _ => rfl
  | n + 1, x, h => by rw [rowL, rowL, h x (by omega) (by omega), rowL_congr n (x + 1) (fun i h1 h2 => h i (by omega) (by omega))]
theorem allL_congr {f g : Int → Int → Int} {C : Nat} : ∀ n y, (∀ i j : Nat, i < C → y ≤ j → j < y + n → f (i : Int) (j : Int) = g (i : Int) (j : Int)) → allL f C y n = allL g C y n
  | 0, _, _ => rfl
  | n + 1, y, h => by rw [allL, allL, rowL_congr C 0 (fun i _ h2 => h i y (by omega) (by omega) (by omega)), allL_congr n (y + 1) (fun i j h1 h2 h3 => h i j h1 (by omega) (by omega))]
theorem rowL_all {f : Int → Int → Int} {y : Nat} {P : Int → Prop} : ∀ n x, (∀ i : Nat, x ≤ i → i < x + n → P (f (i : Int) (y : Int))) → ∀ v ∈ rowL f y x n, P v
  | 0, _, _, v, hv => by rw [rowL] at hv; exact absurd hv (by simp)
  | n + 1, x, h, v, hv => by
    rw [rowL, List.mem_cons] at hv
    rcases hv with rfl | hv
    · exact h x (by omega) (by omega)
    · exact rowL_all n (x + 1) (fun i h1 h2 => h i (by omega) (by omega)) v hv
theorem allL_all {f : Int → Int → Int} {C : Nat} {P : Int → Prop} : ∀ n y, (∀ i j : Nat, i < C → y ≤ j → j < y + n → P (f (i : Int) (j : Int))) → ∀ v ∈ allL f C y n, P v
  | 0, _, _, v, hv => by rw [allL] at hv; exact absurd hv (by simp)
  | n + 1, y, h, v, hv => by
    rw [allL, List.mem_append] at hv
    rcases hv with hv | hv
    · exact rowL_all C 0 (fun i _ h2 => h i y (by omega) (by omega) (by omega)) v hv
    · exact allL_all n (y + 1) (fun i j h1 h2 h3 => h i j h1 (by omega) (by omega)) v hv
theorem allL_len {f : Int → Int → Int} {C : Nat} : ∀ n y, (allL f C y n).length = n * C
  | 0, _ => by rw [allL]; simp
  | n + 1, y => by rw [allL, List.length_append, rowL_len, allL_len n, Nat.add_mul, Nat.one_mul]; omega
def shF (l : List Int) (c s : Int) (a b : Int) : Int := shadeG (gradX l c a b) (gradY l c a b) s
def allS (x y c r s : Int) (l : List Int) : Int × Int × List Int × Int :=
  if chkS x y c r s l = 0 then (c - 1, r - 1, allL (shF l c s) (c - 1).toNat 0 (r - 1).toNat, 0) else (0, 0, [], chkS x y c r s l)
section
set_option linter.unusedSectionVars false
variable {x y c r s : Int} {l : List Int} (h0 : chkS x y c r s l = 0) (hl : l.length ≤ 4200) (C R : Nat) (hC : (C : Int) = c - 1) (hR : (R : Int) = r - 1)
include h0 hl hC hR
theorem relief_row (j : Nat) (hj : j < R) : ∀ (n i : Nat) (acc : List Int) (k : Nat), i + n = C → acc.length + n ≤ 100000 → 1 ≤ k →
    relief_All.l1 (k + n + 1) (j : Int) (R : Int) (j : Int) (C : Int) (i : Int) x y c r s l (C : Int) (R : Int) acc = relief_All.l0 (k) (R : Int) ((j + 1 : Nat) : Int) x y c r s l (C : Int) (R : Int) (acc ++ rowL (shF l c s) j i n)
  | 0, i, acc, k, hi, ha, hk => by
    rw [Nat.add_zero, relief_All.l1, if_neg (by omega), rowL, List.append_nil, show wrap64 ((j : Int) + 1) = ((j + 1 : Nat) : Int) by rw [w64]; omega; have := (chkS_zero h0).1.2.2.2.1; omega]
  | n + 1, i, acc, k, hi, ha, hk => by
    obtain ⟨hf, hn, hb⟩ := chkS_zero h0
    have hc := hf.2.2.1
    have hr := hf.2.2.2.1
    have hin : insideC c r (i : Int) (j : Int) := by unfold insideC; omega
    rw [show k + (n + 1) + 1 = (k + n + 1) + 1 by omega, relief_All.l1, if_pos (by omega), corners_eq hf hn hb hin, Option.bind_some]
    dsimp only
    rw [cell_shade_eq hf hn hb hin _ (by omega), Option.bind_some, if_pos (by omega), show wrap64 ((i : Int) + 1) = ((i + 1 : Nat) : Int) by rw [w64 (by omega)]; omega]
    rw [relief_row j hj n (i + 1) _ k (by omega) (by rw [List.length_append, List.length_singleton]; omega) hk, rowL, List.append_assoc]
    rfl
theorem relief_rows : ∀ (n j : Nat) (acc : List Int) (k : Nat), j + n = R → acc.length + n * C ≤ 100000 → 1 ≤ k →
    relief_All.l0 (k + n * (C + 2) + 1) (R : Int) (j : Int) x y c r s l (C : Int) (R : Int) acc = some ((C : Int), (R : Int), acc ++ allL (shF l c s) C j n, 0)
  | 0, j, acc, k, hj, ha, hk => by
    rw [Nat.zero_mul, Nat.add_zero, relief_All.l0, if_neg (by omega), allL, List.append_nil]
  | n + 1, j, acc, k, hj, ha, hk => by
    have e : (n + 1) * (C + 2) = n * (C + 2) + C + 2 := by rw [Nat.add_mul, Nat.one_mul]; omega
    have e2 : (n + 1) * C = n * C + C := by rw [Nat.add_mul, Nat.one_mul]
    rw [e, relief_All.l0, if_pos (by omega)]
    have := relief_row h0 hl C R hC hR j (by omega) C 0 acc (k + n * (C + 2) + 1) (by omega) (by omega) (by omega)
    rw [show k + n * (C + 2) + 1 + C + 1 = k + (n * (C + 2) + C + 2) by omega] at this
    rw [show ((0 : Nat) : Int) = 0 from rfl] at this
    rw [this, relief_rows n (j + 1) _ k (by omega) (by rw [List.length_append, rowL_len]; omega) hk, allL, List.append_assoc]
theorem ref45_row (j : Nat) (hj : j < R) : ∀ (n i : Nat) (acc : List Int) (k : Nat), i + n = C → acc.length + n ≤ 100000 → 4211 ≤ k →
    mapsheetsref45_All.l1 (k + n + 1) (j : Int) (i : Int) x y c r s l (C : Int) (R : Int) acc = mapsheetsref45_All.l0 (k) ((j + 1 : Nat) : Int) x y c r s l (C : Int) (R : Int) (acc ++ rowL (shF l c s) j i n)
  | 0, i, acc, k, hi, ha, hk => by
    have hr := (chkS_zero h0).1.2.2.2.1
    rw [Nat.add_zero, mapsheetsref45_All.l1, if_neg (by omega), rowL, List.append_nil, show wrap64 ((j : Int) + 1) = ((j + 1 : Nat) : Int) by rw [w64 (by omega)]; omega]
  | n + 1, i, acc, k, hi, ha, hk => by
    obtain ⟨hf, hn, hb⟩ := chkS_zero h0
    have hc := hf.2.2.1
    have hr := hf.2.2.2.1
    have hin : insideC c r (i : Int) (j : Int) := by unfold insideC; omega
    have hs : shadeS x y c r s l (i : Int) (j : Int) = (shF l c s (i : Int) (j : Int), 0) := by unfold shadeS shF; rw [if_pos h0, if_pos hin]
    rw [show k + (n + 1) + 1 = (k + n + 1) + 1 by omega, mapsheetsref45_All.l1, if_pos (by omega), ref45_Shade_eq x y c r s l hl (by omega) (by omega) _ (by omega), Option.bind_some, hs, if_pos (by omega), show wrap64 ((i : Int) + 1) = ((i + 1 : Nat) : Int) by rw [w64 (by omega)]; omega]
    rw [ref45_row j hj n (i + 1) _ k (by omega) (by rw [List.length_append, List.length_singleton]; omega) hk, rowL, List.append_assoc]
    rfl
theorem ref45_rows : ∀ (n j : Nat) (acc : List Int) (k : Nat), j + n = R → acc.length + n * C ≤ 100000 → 4211 ≤ k →
    mapsheetsref45_All.l0 (k + n * (C + 2) + 1) (j : Int) x y c r s l (C : Int) (R : Int) acc = some ((C : Int), (R : Int), acc ++ allL (shF l c s) C j n, 0)
  | 0, j, acc, k, hj, ha, hk => by
    rw [Nat.zero_mul, Nat.add_zero, mapsheetsref45_All.l0, if_neg (by omega), allL, List.append_nil]
  | n + 1, j, acc, k, hj, ha, hk => by
    have e : (n + 1) * (C + 2) = n * (C + 2) + C + 2 := by rw [Nat.add_mul, Nat.one_mul]; omega
    have e2 : (n + 1) * C = n * C + C := by rw [Nat.add_mul, Nat.one_mul]
    rw [e, mapsheetsref45_All.l0, if_pos (by omega)]
    have := ref45_row h0 hl C R hC hR j (by omega) C 0 acc (k + n * (C + 2) + 1) (by omega) (by omega) (by omega)
    rw [show k + n * (C + 2) + 1 + C + 1 = k + (n * (C + 2) + C + 2) by omega] at this
    rw [show ((0 : Nat) : Int) = 0 from rfl] at this
    rw [this, ref45_rows n (j + 1) _ k (by omega) (by rw [List.length_append, rowL_len]; omega) hk, allL, List.append_assoc]
end
theorem cells_le {C R : Nat} (hC : C ≤ 63) (hR : R ≤ 63) : R * C ≤ 3969 ∧ R * (C + 2) ≤ 4095 :=
  ⟨Nat.mul_le_mul hR hC, Nat.mul_le_mul hR (show C + 2 ≤ 65 by omega)⟩
theorem relief_All_eq (x y c r s : Int) (l : List Int) (hl : l.length ≤ 4200) (k : Nat) (hk : 9000 ≤ k) : relief_All.f k x y c r s l = some (allS x y c r s l) := by
  unfold relief_All.f allS
  rw [terrain_Check_eq x y c r s l hl k (by omega), Option.bind_some]
  by_cases h0 : chkS x y c r s l = 0
  case neg => rw [if_neg h0, if_neg h0]
  obtain ⟨hf, hn, hb⟩ := chkS_zero h0
  have hc := hf.2.2.1
  have hr := hf.2.2.2.1
  obtain ⟨C, hC⟩ : ∃ C : Nat, C = (c - 1).toNat := ⟨_, rfl⟩
  obtain ⟨R, hR⟩ : ∃ R : Nat, R = (r - 1).toNat := ⟨_, rfl⟩
  have eC : (C : Int) = c - 1 := by omega
  have eR : (R : Int) = r - 1 := by omega
  have hle := cells_le (C := C) (R := R) (by omega) (by omega)
  rw [if_pos h0, if_pos h0, w64 (x := r - 1) (by omega), w64 (x := c - 1) (by omega), ← hC, ← hR, ← eC, ← eR]
  have := relief_rows h0 hl C R eC eR R 0 [] (k - (R * (C + 2) + 1)) (by omega) (by rw [List.length_nil]; omega) (by omega)
  rw [show k - (R * (C + 2) + 1) + R * (C + 2) + 1 = k by omega] at this
  exact this
theorem ref45_All_eq (x y c r s : Int) (l : List Int) (hl : l.length ≤ 4200) (k : Nat) (hk : 9000 ≤ k) : mapsheetsref45_All.f k x y c r s l = some (allS x y c r s l) := by
  unfold mapsheetsref45_All.f allS
  rw [ref43_Check_eq x y c r s l hl k (by omega), Option.bind_some]
  by_cases h0 : chkS x y c r s l = 0
  case neg => rw [if_neg h0, if_neg h0]
  obtain ⟨hf, hn, hb⟩ := chkS_zero h0
  have hc := hf.2.2.1
  have hr := hf.2.2.2.1
  obtain ⟨C, hC⟩ : ∃ C : Nat, C = (c - 1).toNat := ⟨_, rfl⟩
  obtain ⟨R, hR⟩ : ∃ R : Nat, R = (r - 1).toNat := ⟨_, rfl⟩
  have eC : (C : Int) = c - 1 := by omega
  have eR : (R : Int) = r - 1 := by omega
  have hle := cells_le (C := C) (R := R) (by omega) (by omega)
  rw [if_pos h0, if_pos h0, w64 (x := r - 1) (by omega), w64 (x := c - 1) (by omega), ← hC, ← hR, ← eC, ← eR]
  have := ref45_rows h0 hl C R eC eR R 0 [] (k - (R * (C + 2) + 1)) (by omega) (by rw [List.length_nil]; omega) (by omega)
  rw [show k - (R * (C + 2) + 1) + R * (C + 2) + 1 = k by omega] at this
  exact this
theorem same_loop (c1 r1 c2 r2 : Int) (l : List Int) (hl : l.length ≤ 100000) : ∀ (m i k : Nat), i + m = l.length → m + 1 ≤ k → mapsheetsref45_Same.l0 k (i : Int) c1 r1 l c2 r2 l = some true
  | 0, i, k, hi, hk => by
    obtain ⟨k, rfl⟩ : ∃ j, k = j + 1 := ⟨k - 1, by omega⟩
    rw [mapsheetsref45_Same.l0, if_neg (by omega)]
  | m + 1, i, k, hi, hk => by
    obtain ⟨k, rfl⟩ : ∃ j, k = j + 1 := ⟨k - 1, by omega⟩
    rw [mapsheetsref45_Same.l0, if_pos (by omega), if_pos (by omega), if_pos (by omega), if_pos rfl, show wrap64 ((i : Int) + 1) = ((i + 1 : Nat) : Int) by rw [w64 (by omega)]; omega]
    exact same_loop c1 r1 c2 r2 l hl m (i + 1) k (by omega) (by omega)
theorem same_eq (c r : Int) (l : List Int) (hl : l.length ≤ 100000) (k : Nat) (hk : 100002 ≤ k) : mapsheetsref45_Same.f k c r l c r l = some true := by
  obtain ⟨k, rfl⟩ : ∃ j, k = j + 1 := ⟨k - 1, by omega⟩
  unfold mapsheetsref45_Same.f
  rw [if_pos rfl, if_pos rfl, bne_self_eq_false]
  simp only [mapsheetsref45_Same.j0]
  rw [if_neg (by decide)]
  exact same_loop c r c r l hl l.length 0 k (by omega) (by omega)
end Go.Proofs.Ytflpllnkjboidaa.PAll
