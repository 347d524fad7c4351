/- The row of the law TerrainBetween: for every input that can be read the call returns true, and each argument reads as it did. No condition. -/
import Derived.SizedLaws
import Derived.DataElems
import Derived.Deep.Slices
import Derived.OpenShut
import Derived.Test.YtachglfhgcdobaaRows
import Derived.WalkKit
import Derived.ProofKit
import Derived.ShutString
import Derived.ChangeOld
import Derived.Below
import Derived.Test.YtachglfhgcdobaaQTerrainBetween4
section
namespace Go.Proofs.Ytachglfhgcdobaa.PAll
open Go.RowKit Go.Proofs.YtachglfhgcdobaaW.PrintWords Go.Proofs.YtachglfhgcdobaaW.PrintLast
set_option linter.unusedVariables false
def hgt (l : List Int) (c x y : Int) : Int := rd l (y * c + x)
def rowS (l : List Int) (c q : Int) : List Int := (l.take ((q + 1) * c).toNat).drop (q * c).toNat
theorem rd_part (l : List Int) (A B i : Nat) (h : A + i < B) (hB : B ≤ l.length) : rd ((l.take B).drop A) (i : Int) = rd l ((A + i : Nat) : Int) := by
  rw [rd_get _ i (by rw [List.length_drop, List.length_take]; omega), rd_get l (A + i) (by omega), List.getElem_drop, List.getElem_take]
section
set_option linter.unusedSectionVars false
variable {x y c r s : Int} {l : List Int} (hf : fits x y c r s) (hn : (l.length : Int) = c * r)
include hf hn
theorem hgt_range (hb : hasBad l = false) {a b : Int} (ha : 0 ≤ a ∧ a < c) (hb' : 0 ≤ b ∧ b < r) : -10000 ≤ hgt l c a b ∧ hgt l c a b ≤ 10000 := by
  have := cell_lt ha hb'
  exact hasBad_rd hb this.1 (by omega)
theorem row_ends {q : Int} (hq : 0 ≤ q ∧ q < r) : 0 ≤ q * c ∧ (q + 1) * c = q * c + c ∧ (q + 1) * c ≤ l.length ∧ (l.length : Int) ≤ 4096 := by
  have h := cell_lt (c := c) (r := r) (a := c - 1) (b := q) (by have := hf.2.2.1; omega) hq
  have e : (q + 1) * c = q * c + c := by rw [Int.add_mul, Int.one_mul]
  have p3 := area_le hf.2.2.1 hf.2.2.2.1
  omega
theorem row_eq {q : Int} (hq : 0 ≤ q ∧ q < r) : terrain_row.f x y c r s l q = some (rowS l c q) := by
  obtain ⟨h1, h2, h3, h4⟩ := row_ends hf hn hq
  have hc := hf.2.2.1
  have hr := hf.2.2.2.1
  unfold terrain_row.f rowS
  rw [w64 (x := q + 1) (by omega), w64 (x := q * c) (by omega), w64 (x := (q + 1) * c) (by omega), if_pos (by omega), if_pos (by omega), if_pos (by omega)]
theorem rowS_len {q : Int} (hq : 0 ≤ q ∧ q < r) : ((rowS l c q).length : Int) = c := by
  obtain ⟨h1, h2, h3, h4⟩ := row_ends hf hn hq
  have hc := hf.2.2.1
  unfold rowS
  rw [List.length_drop, List.length_take]; omega
theorem rowS_rd {q p : Int} (hq : 0 ≤ q ∧ q < r) (hp : 0 ≤ p ∧ p < c) : rd (rowS l c q) p = hgt l c p q := by
  obtain ⟨h1, h2, h3, h4⟩ := row_ends hf hn hq
  obtain ⟨n, rfl⟩ : ∃ n : Nat, p = n := ⟨p.toNat, by omega⟩
  unfold rowS hgt
  rw [rd_part l _ _ n (by omega) (by omega)]
  congr 1; omega
end
theorem terrain_Value_eq (x y c r s : Int) (l : List Int) (hl : l.length ≤ 4200) (a b : Int) (k : Nat) (hk : 4210 ≤ k) : terrain_Value.f k x y c r s l a b = some (valS x y c r s l a b) := by
  unfold terrain_Value.f valS
  rw [terrain_Check_eq x y c r s l hl k hk, Option.bind_some]
  by_cases h : chkS x y c r s l = 0
  case neg => rw [if_neg h, if_neg h]
  obtain ⟨hf, hn, _⟩ := chkS_zero h
  have hc := hf.2.2.1
  have hr := hf.2.2.2.1
  rw [if_pos h, if_pos h, w64 (x := c - 1) (by omega), w64 (x := r - 1) (by omega), within_eq, Option.bind_some]
  by_cases h1 : 0 ≤ a ∧ a < c
  case neg => rw [if_neg (by rw [decide_eq_true_eq]; omega), if_neg (fun g => h1 g.1)]
  rw [if_pos (decide_eq_true (by omega)), within_eq, Option.bind_some]
  by_cases h2 : 0 ≤ b ∧ b < r
  case neg => rw [if_neg (by rw [decide_eq_true_eq]; omega), if_neg (fun g => h2 g.2)]
  rw [if_pos (decide_eq_true (by omega)), if_pos (show (0 ≤ a ∧ a < c) ∧ (0 ≤ b ∧ b < r) from ⟨h1, h2⟩), row_eq hf hn h2, Option.bind_some, rowS_len hf hn h2, if_pos (by omega), if_pos (by omega), rowS_rd hf hn h2 h1]
  rfl
theorem min_loop (l : List Int) (hl : l.length ≤ 4200) : ∀ (m i k : Nat) (a : Int), i + m = l.length → m + 1 ≤ k → slices_Min_int_int.l0 k l a (i : Int) = some ((l.drop i).foldl mn a)
  | 0, i, k, a, hi, hk => by
    obtain ⟨k, rfl⟩ : ∃ j, k = j + 1 := ⟨k - 1, by omega⟩
    rw [slices_Min_int_int.l0, if_neg (by omega), List.drop_eq_nil_of_le (by omega)]; rfl
  | m + 1, i, k, a, hi, hk => by
    obtain ⟨k, rfl⟩ : ∃ j, k = j + 1 := ⟨k - 1, by omega⟩
    have hlt : i < l.length := by omega
    rw [slices_Min_int_int.l0, if_pos (by omega), if_pos (by omega), rd_get l i hlt, show wrap64 ((i : Int) + 1) = ((i + 1 : Nat) : Int) by rw [w64 (by omega)]; omega, min_loop l hl m (i + 1) k _ (by omega) (by omega), List.drop_eq_getElem_cons hlt]
    rfl
theorem max_loop (l : List Int) (hl : l.length ≤ 4200) : ∀ (m i k : Nat) (a : Int), i + m = l.length → m + 1 ≤ k → slices_Max_int_int.l0 k l a (i : Int) = some ((l.drop i).foldl mx a)
  | 0, i, k, a, hi, hk => by
    obtain ⟨k, rfl⟩ : ∃ j, k = j + 1 := ⟨k - 1, by omega⟩
    rw [slices_Max_int_int.l0, if_neg (by omega), List.drop_eq_nil_of_le (by omega)]; rfl
  | m + 1, i, k, a, hi, hk => by
    obtain ⟨k, rfl⟩ : ∃ j, k = j + 1 := ⟨k - 1, by omega⟩
    have hlt : i < l.length := by omega
    rw [slices_Max_int_int.l0, if_pos (by omega), if_pos (by omega), rd_get l i hlt, show wrap64 ((i : Int) + 1) = ((i + 1 : Nat) : Int) by rw [w64 (by omega)]; omega, max_loop l hl m (i + 1) k _ (by omega) (by omega), List.drop_eq_getElem_cons hlt]
    rfl
def extS (x y c r s : Int) (l : List Int) : Int × Int × Int := if chkS x y c r s l = 0 then ((l.drop 1).foldl mn (rd l 0), (l.drop 1).foldl mx (rd l 0), 0) else (0, 0, chkS x y c r s l)
theorem len_pos {x y c r s : Int} {l : List Int} (hf : fits x y c r s) (hn : (l.length : Int) = c * r) : 4 ≤ l.length := by
  have h := cell_lt (c := c) (r := r) (a := 1) (b := 1) (by have := hf.2.2.1; omega) (by have := hf.2.2.2.1; omega)
  have := hf.2.2.1
  omega
theorem terrain_Extent_eq (x y c r s : Int) (l : List Int) (hl : l.length ≤ 4200) (k : Nat) (hk : 4210 ≤ k) : terrain_Extent.f k x y c r s l = some (extS x y c r s l) := by
  unfold terrain_Extent.f extS
  rw [terrain_Check_eq x y c r s l hl k hk, Option.bind_some]
  by_cases h : chkS x y c r s l = 0
  case neg => rw [if_neg h, if_neg h]
  obtain ⟨hf, hn, _⟩ := chkS_zero h
  have h4 := len_pos hf hn
  rw [if_pos h, if_pos h]
  unfold slices_Min_int_int.f slices_Max_int_int.f
  have e1 := min_loop l hl (l.length - 1) 1 k (rd l 0) (by omega) (by omega)
  have e2 := max_loop l hl (l.length - 1) 1 k (rd l 0) (by omega) (by omega)
  rw [show ((1 : Nat) : Int) = 1 from rfl] at e1 e2
  rw [if_neg (by omega), if_pos (by omega), e1, Option.bind_some, if_neg (by omega), if_pos (by omega), e2, Option.bind_some]
end Go.Proofs.Ytachglfhgcdobaa.PAll
end
section
namespace Go.Proofs.Ytachglfhgcdobaa.PAll
open Go.RowKit Go.Proofs.YtachglfhgcdobaaW.PrintWords Go.Proofs.YtachglfhgcdobaaW.PrintLast
set_option linter.unusedVariables false
def cellI (x s c X : Int) : Int := mn ((X - x) / s) (c - 2)
def reach (x y c r s X Y : Int) : Prop := (x ≤ X ∧ X ≤ x + (c - 1) * s) ∧ (y ≤ Y ∧ Y ≤ y + (r - 1) * s)
instance (x y c r s X Y : Int) : Decidable (reach x y c r s X Y) := by unfold reach; infer_instance
def interp (s a b c d u v : Int) : Int := if u ≥ v then a * s + ((b - a) * u + (d - b) * v) else a * s + ((c - a) * v + (d - c) * u)
def numS (x y c r s : Int) (l : List Int) (X Y : Int) : Int :=
  interp s (hgt l c (cellI x s c X) (cellI y s r Y)) (hgt l c (cellI x s c X + 1) (cellI y s r Y)) (hgt l c (cellI x s c X) (cellI y s r Y + 1)) (hgt l c (cellI x s c X + 1) (cellI y s r Y + 1)) (X - x - cellI x s c X * s) (Y - y - cellI y s r Y * s)
def heightS (x y c r s : Int) (l : List Int) (X Y : Int) : Int × Int × Int :=
  if chkS x y c r s l = 0 then (if reach x y c r s X Y then makeS (numS x y c r s l X Y) s else (0, 0, 7)) else (0, 0, chkS x y c r s l)
theorem cell_ok {x s c X : Int} (hx : -1048576 ≤ x ∧ x ≤ 1048576) (hc : 2 ≤ c ∧ c ≤ 64) (hs : 1 ≤ s ∧ s ≤ 1048576) (hX : x ≤ X ∧ X ≤ x + (c - 1) * s) (he : x + (c - 1) * s ≤ 1048576) :
    mn (wrap64 (Int.tdiv (wrap64 (X - x)) s)) (wrap64 (c - 2)) = cellI x s c X ∧ 0 ≤ cellI x s c X ∧ cellI x s c X ≤ c - 2 ∧ 0 ≤ X - x - cellI x s c X * s ∧ X - x - cellI x s c X * s ≤ s ∧ 0 ≤ cellI x s c X * s ∧ cellI x s c X * s ≤ 2097152 := by
  have st := steps_le hc hs
  have hd : 0 ≤ X - x := by omega
  have q0 : 0 ≤ (X - x) / s := Int.ediv_nonneg hd (by omega)
  have q1 : (X - x) / s ≤ X - x := Int.ediv_le_self _ hd
  have em := Int.emod_add_mul_ediv (X - x) s
  have e1 := Int.emod_nonneg (X - x) (show s ≠ 0 by omega)
  have e2 := Int.emod_lt_of_pos (X - x) (show 0 < s by omega)
  rw [w64 (x := X - x) (by omega), Int.tdiv_eq_ediv_of_nonneg hd, w64 (x := (X - x) / s) (by omega), w64 (x := c - 2) (by omega)]
  unfold cellI
  generalize (X - x) / s = q at *
  generalize (X - x) % s = m at *
  have hcs : (c - 1) * s = (c - 2) * s + s := by rw [show c - 1 = (c - 2) + 1 by omega, Int.add_mul, Int.one_mul]
  have hsq : s * q = q * s := Int.mul_comm _ _
  unfold mn
  refine ⟨rfl, ?_⟩
  by_cases hq : c - 2 < q
  case neg =>
    rw [if_neg hq]
    have : 0 ≤ q * s := Int.mul_nonneg q0 (by omega)
    by_cases he2 : q = c - 2
    · subst he2; omega
    · have h3 : (q + 1) * s ≤ (c - 1) * s := Int.mul_le_mul_of_nonneg_right (by omega) (by omega)
      rw [Int.add_mul, Int.one_mul] at h3
      omega
  case pos =>
    rw [if_pos hq]
    have h1 : (c - 2) * s ≤ q * s := Int.mul_le_mul_of_nonneg_right (by omega) (by omega)
    have h2 : 0 ≤ (c - 2) * s := Int.mul_nonneg (by omega) (by omega)
    omega
theorem part_le {A B s : Int} (hA : -20000 ≤ A ∧ A ≤ 20000) (hB : 0 ≤ B ∧ B ≤ s) (hs : s ≤ 1048576) : -20971520000 ≤ A * B ∧ A * B ≤ 20971520000 := by
  have h1 : A * B ≤ 20000 * B := Int.mul_le_mul_of_nonneg_right hA.2 hB.1
  have h2 : -20000 * B ≤ A * B := Int.mul_le_mul_of_nonneg_right hA.1 hB.1
  omega
theorem interp_range {s a b c d u v : Int} (ha : -10000 ≤ a ∧ a ≤ 10000) (hb : -10000 ≤ b ∧ b ≤ 10000) (hc : -10000 ≤ c ∧ c ≤ 10000) (hd : -10000 ≤ d ∧ d ≤ 10000) (hu : 0 ≤ u ∧ u ≤ s) (hv : 0 ≤ v ∧ v ≤ s) (hs : 1 ≤ s ∧ s ≤ 1048576) :
    (-62914560000 ≤ interp s a b c d u v ∧ interp s a b c d u v ≤ 62914560000) ∧
    (u ≥ v → wrap64 (wrap64 (a * s) + wrap64 (wrap64 (wrap64 (b - a) * u) + wrap64 (wrap64 (d - b) * v))) = interp s a b c d u v) ∧
    (¬ u ≥ v → wrap64 (wrap64 (a * s) + wrap64 (wrap64 (wrap64 (c - a) * v) + wrap64 (wrap64 (d - c) * u))) = interp s a b c d u v) ∧
    (u ≥ v → wrap64 (wrap64 (wrap64 (a * s) + wrap64 (wrap64 (b - a) * u)) + wrap64 (wrap64 (d - b) * v)) = interp s a b c d u v) ∧
    (¬ u ≥ v → wrap64 (wrap64 (wrap64 (a * s) + wrap64 (wrap64 (c - a) * v)) + wrap64 (wrap64 (d - c) * u)) = interp s a b c d u v) := by
  have p0 := part_le (A := a) (B := s) (by omega) (s := s) (by omega) hs.2
  have p1 := part_le (A := b - a) (B := u) (by omega) hu hs.2
  have p2 := part_le (A := d - b) (B := v) (by omega) hv hs.2
  have p3 := part_le (A := c - a) (B := v) (by omega) hv hs.2
  have p4 := part_le (A := d - c) (B := u) (by omega) hu hs.2
  unfold interp
  refine ⟨?_, ?_, ?_, ?_, ?_⟩
  · split <;> omega
  · intro h
    rw [if_pos h, w64 (x := b - a) (by omega), w64 (x := d - b) (by omega), w64 (x := a * s) (by omega), w64 (x := (b - a) * u) (by omega), w64 (x := (d - b) * v) (by omega), w64 (x := (b - a) * u + (d - b) * v) (by omega), w64 (by omega)]
  · intro h
    rw [if_neg h, w64 (x := c - a) (by omega), w64 (x := d - c) (by omega), w64 (x := a * s) (by omega), w64 (x := (c - a) * v) (by omega), w64 (x := (d - c) * u) (by omega), w64 (x := (c - a) * v + (d - c) * u) (by omega), w64 (by omega)]
  · intro h
    rw [if_pos h, w64 (x := b - a) (by omega), w64 (x := d - b) (by omega), w64 (x := a * s) (by omega), w64 (x := (b - a) * u) (by omega), w64 (x := (d - b) * v) (by omega), w64 (x := a * s + (b - a) * u) (by omega), w64 (by omega)]; omega
  · intro h
    rw [if_neg h, w64 (x := c - a) (by omega), w64 (x := d - c) (by omega), w64 (x := a * s) (by omega), w64 (x := (c - a) * v) (by omega), w64 (x := (d - c) * u) (by omega), w64 (x := a * s + (c - a) * v) (by omega), w64 (by omega)]; omega
theorem pair_eq {t : List Int} {p : Int} (h0 : 0 ≤ p) (h1 : p + 2 ≤ t.length) : (((t.take (p + 2).toNat).drop p.toNat).length : Int) = 2 ∧ rd ((t.take (p + 2).toNat).drop p.toNat) 0 = rd t p ∧ rd ((t.take (p + 2).toNat).drop p.toNat) 1 = rd t (p + 1) := by
  refine ⟨?_, ?_, ?_⟩
  · rw [List.length_drop, List.length_take]; omega
  · have := rd_part t p.toNat (p + 2).toNat 0 (by omega) (by omega)
    rw [show ((0 : Nat) : Int) = 0 from rfl] at this
    rw [this]; congr 1; omega
  · have := rd_part t p.toNat (p + 2).toNat 1 (by omega) (by omega)
    rw [show ((1 : Nat) : Int) = 1 from rfl] at this
    rw [this]; congr 1; omega
theorem terrain_Height_eq (x y c r s : Int) (l : List Int) (hl : l.length ≤ 4200) {X Y : Int} (hX : -9223372036854775808 ≤ X ∧ X ≤ 9223372036854775807) (hY : -9223372036854775808 ≤ Y ∧ Y ≤ 9223372036854775807) (k : Nat) (hk : 9223372036854775810 ≤ k) :
    terrain_Height.f k x y c r s l X Y = some (heightS x y c r s l X Y) := by
  obtain ⟨k, rfl⟩ : ∃ j, k = j + 1 := ⟨k - 1, by omega⟩
  have j0t : terrain_Height.j0 (k + 1) true x y c r s l X Y = some (0, 0, 7) := by rw [terrain_Height.j0, if_pos rfl]
  unfold terrain_Height.f heightS
  rw [terrain_Check_eq x y c r s l hl _ (by omega), Option.bind_some]
  by_cases h : chkS x y c r s l = 0
  case neg => rw [if_neg h, if_neg h]
  rw [if_pos h, if_pos h]
  obtain ⟨hf, hn, hb⟩ := chkS_zero h
  obtain ⟨fx, fy, fc, fr, fs, fX, fY⟩ := hf
  have hf : fits x y c r s := ⟨fx, fy, fc, fr, fs, fX, fY⟩
  have stx := steps_le fc fs
  have sty := steps_le fr fs
  have ex : wrap64 (x + wrap64 (wrap64 (c - 1) * s)) = x + (c - 1) * s := by
    rw [w64 (x := c - 1) (by omega), w64 (x := (c - 1) * s) (by omega)]; exact w64 (by omega)
  have ey : wrap64 (y + wrap64 (wrap64 (r - 1) * s)) = y + (r - 1) * s := by
    rw [w64 (x := r - 1) (by omega), w64 (x := (r - 1) * s) (by omega)]; exact w64 (by omega)
  rw [ex, ey]
  by_cases c1 : X < x
  · rw [if_pos c1, j0t, if_neg (show ¬ reach x y c r s X Y by unfold reach; omega)]
  rw [if_neg c1]
  by_cases c2 : Y < y
  · rw [if_pos c2, j0t, if_neg (show ¬ reach x y c r s X Y by unfold reach; omega)]
  rw [if_neg c2]
  by_cases c3 : X > x + (c - 1) * s
  · rw [if_pos c3, j0t, if_neg (show ¬ reach x y c r s X Y by unfold reach; omega)]
  rw [if_neg c3]
  by_cases c4 : Y > y + (r - 1) * s
  · rw [decide_eq_true c4, j0t, if_neg (show ¬ reach x y c r s X Y by unfold reach; omega)]
  have hr : reach x y c r s X Y := by unfold reach; omega
  rw [decide_eq_false c4, if_pos hr, terrain_Height.j0, if_neg (by decide), if_neg (by omega)]
  obtain ⟨eC, C0, C1, u0, u1, CS0, CS1⟩ := cell_ok (X := X) fx fc fs (by omega) fX
  obtain ⟨eR, R0, R1, v0, v1, RS0, RS1⟩ := cell_ok (X := Y) fy fr fs (by omega) fY
  rw [eC, eR]
  unfold numS
  obtain ⟨col, hcol⟩ : ∃ z, z = cellI x s c X := ⟨_, rfl⟩
  obtain ⟨row, hrow⟩ : ∃ z, z = cellI y s r Y := ⟨_, rfl⟩
  rw [← hcol] at C0 C1 u0 u1 CS0 CS1 ⊢
  rw [← hrow] at R0 R1 v0 v1 RS0 RS1 ⊢
  have len1 := rowS_len hf hn (q := row) (by omega)
  have len2 := rowS_len hf hn (q := row + 1) (by omega)
  obtain ⟨pl1, pa, pb⟩ := pair_eq (t := rowS l c row) (p := col) C0 (by omega)
  obtain ⟨pl2, pc, pd⟩ := pair_eq (t := rowS l c (row + 1)) (p := col) C0 (by omega)
  rw [rowS_rd hf hn (by omega) (by omega)] at pa pb pc pd
  rw [w64 (x := col + 2) (by omega), w64 (x := row + 1) (by omega), w64 (x := X - x) (by omega), w64 (x := Y - y) (by omega), w64 (x := col * s) (by omega), w64 (x := row * s) (by omega), w64 (x := X - x - col * s) (by omega), w64 (x := Y - y - row * s) (by omega)]
  rw [row_eq hf hn (by omega), Option.bind_some, if_pos C0, if_pos (by omega), if_pos (by omega), Option.bind_some, row_eq hf hn (by omega), Option.bind_some, if_pos (by omega), Option.bind_some, pl1, pl2, pa, pb, pc, pd, if_pos (by omega)]
  have ha := hgt_range hf hn hb (a := col) (b := row) (by omega) (by omega)
  have hb1 := hgt_range hf hn hb (a := col + 1) (b := row) (by omega) (by omega)
  have hc1 := hgt_range hf hn hb (a := col) (b := row + 1) (by omega) (by omega)
  have hd1 := hgt_range hf hn hb (a := col + 1) (b := row + 1) (by omega) (by omega)
  obtain ⟨rg, i1, i2, _, _⟩ := interp_range ha hb1 hc1 hd1 ⟨u0, u1⟩ ⟨v0, v1⟩ fs
  by_cases hu : X - x - col * s ≥ Y - y - row * s
  · rw [if_pos hu, if_pos (by omega), if_pos (by omega), i1 hu, num_Make_eq (by omega) (by omega) k (by omega), Option.bind_some]
  · rw [if_neg hu, if_pos (by omega), if_pos (by omega), i2 hu, num_Make_eq (by omega) (by omega) k (by omega), Option.bind_some]
end Go.Proofs.Ytachglfhgcdobaa.PAll
end
section
namespace Go.Proofs.Ytachglfhgcdobaa.PAll
open Go.RowKit Go.Proofs.YtachglfhgcdobaaW.PrintWords Go.Proofs.YtachglfhgcdobaaW.PrintLast
set_option linter.unusedVariables false
theorem at_le {x s c p : Int} (hx : -1048576 ≤ x ∧ x ≤ 1048576) (hc : 2 ≤ c ∧ c ≤ 64) (hs : 1 ≤ s ∧ s ≤ 1048576) (hp : 0 ≤ p ∧ p < c) : wrap64 (x + wrap64 (p * s)) = x + p * s ∧ 0 ≤ p * s ∧ p * s ≤ (c - 1) * s := by
  have st := steps_le hc hs
  have h0 : 0 ≤ p * s := Int.mul_nonneg hp.1 (by omega)
  have h1 : p * s ≤ (c - 1) * s := Int.mul_le_mul_of_nonneg_right (by omega) (by omega)
  refine ⟨?_, h0, h1⟩
  rw [w64 (x := p * s) (by omega), w64 (by omega)]
section
set_option linter.unusedSectionVars false
variable {x y c r s : Int} {l : List Int} (h0 : chkS x y c r s l = 0) (C R : Nat) (hC : (C : Int) = c) (hR : (R : Int) = r)
include h0 hC hR
end
end Go.Proofs.Ytachglfhgcdobaa.PAll
end
section
namespace Go.Proofs.Ytachglfhgcdobaa.PAll
open Go.RowKit Go.Proofs.YtachglfhgcdobaaW.PrintWords Go.Proofs.YtachglfhgcdobaaW.PrintLast
set_option linter.unusedVariables false
theorem makeS_form {n s : Int} (hn : -99999999999 ≤ n ∧ n ≤ 99999999999) (hs : 1 ≤ s ∧ s ≤ 1048576) : ∃ m t : Int, n = (Int.gcd n s : Int) * m ∧ s = (Int.gcd n s : Int) * t ∧ 0 < (Int.gcd n s : Int) ∧ 0 < t ∧ makeS n s = (m, t, 0) := by
  have hg : 0 < Nat.gcd n.natAbs s.natAbs := gcd_pos_of (a := n) (b := s) (by omega)
  have e : Int.gcd n s = Nat.gcd n.natAbs s.natAbs := rfl
  have d1 := Nat.div_le_self n.natAbs (Nat.gcd n.natAbs s.natAbs)
  have d2 := Nat.div_le_self s.natAbs (Nat.gcd n.natAbs s.natAbs)
  have m1 := Nat.mul_div_cancel' (Nat.gcd_dvd_left n.natAbs s.natAbs)
  have m2 := Nat.mul_div_cancel' (Nat.gcd_dvd_right n.natAbs s.natAbs)
  have pz : 0 < s.natAbs / Nat.gcd n.natAbs s.natAbs := Nat.div_pos (Nat.le_of_dvd (by omega) (Nat.gcd_dvd_right _ _)) hg
  rw [e]
  unfold makeS
  generalize n.natAbs / Nat.gcd n.natAbs s.natAbs = a at *
  generalize s.natAbs / Nat.gcd n.natAbs s.natAbs = b at *
  generalize Nat.gcd n.natAbs s.natAbs = g at *
  have c1 : ((g * a : Nat) : Int) = (g : Int) * (a : Int) := Int.natCast_mul g a
  have c2 : ((g * b : Nat) : Int) = (g : Int) * (b : Int) := Int.natCast_mul g b
  rw [if_neg (by omega), decide_eq_false (show ¬ s < 0 by omega)]
  by_cases hneg : n < 0
  · refine ⟨-(a : Int), (b : Int), ?_, by omega, by omega, by omega, ?_⟩
    · rw [Int.mul_neg, ← c1]; omega
    · rw [decide_eq_true hneg, show (true != false) = true from rfl, if_pos ⟨fitN_true.2 (by omega), by omega⟩, sgnN_true]
  · refine ⟨(a : Int), (b : Int), ?_, by omega, by omega, by omega, ?_⟩
    · rw [← c1]; omega
    · rw [decide_eq_false hneg, show (false != false) = false from rfl, if_pos ⟨fitN_false.2 (by omega), by omega⟩, sgnN_false]
theorem makeS_whole {h s : Int} (hh : -10000 ≤ h ∧ h ≤ 10000) (hs : 1 ≤ s ∧ s ≤ 1048576) : makeS (h * s) s = (h, 1, 0) := by
  have b := part_le (A := h) (B := s) (s := s) (by omega) (by omega) hs.2
  obtain ⟨m, t, e1, e2, g0, t0, e3⟩ := makeS_form (n := h * s) (by omega) hs
  have hg : Int.gcd (h * s) s = s.natAbs := by
    show Nat.gcd (h * s).natAbs s.natAbs = s.natAbs
    rw [Int.natAbs_mul]; exact Nat.gcd_eq_right (Nat.dvd_mul_left _ _)
  rw [hg, show (s.natAbs : Int) = s by omega] at e1 e2
  rw [e3]
  have ht : t = 1 := Int.eq_of_mul_eq_mul_left (a := s) (by omega) (by rw [← e2, Int.mul_one])
  have hm : m = h := Int.eq_of_mul_eq_mul_left (a := s) (by omega) (by rw [← e1, Int.mul_comm])
  rw [ht, hm]
section
set_option linter.unusedSectionVars false
variable {x y c r s : Int} {l : List Int} (hf : fits x y c r s) (hn : (l.length : Int) = c * r) (hb : hasBad l = false)
include hf hn hb
theorem numS_range {X Y : Int} (hr : reach x y c r s X Y) : -62914560000 ≤ numS x y c r s l X Y ∧ numS x y c r s l X Y ≤ 62914560000 := by
  obtain ⟨fx, fy, fc, fr, fs, fX, fY⟩ := hf
  have hf : fits x y c r s := ⟨fx, fy, fc, fr, fs, fX, fY⟩
  obtain ⟨_, C0, C1, u0, u1, _, _⟩ := cell_ok (X := X) fx fc fs hr.1 fX
  obtain ⟨_, R0, R1, v0, v1, _, _⟩ := cell_ok (X := Y) fy fr fs hr.2 fY
  unfold numS
  exact (interp_range (hgt_range hf hn hb (by omega) (by omega)) (hgt_range hf hn hb (by omega) (by omega)) (hgt_range hf hn hb (by omega) (by omega)) (hgt_range hf hn hb (by omega) (by omega)) ⟨u0, u1⟩ ⟨v0, v1⟩ fs).1
end
end Go.Proofs.Ytachglfhgcdobaa.PAll
end
section
namespace Go.Proofs.Ytachglfhgcdobaa.PAll
open Go.RowKit Go.Proofs.YtachglfhgcdobaaW.PrintWords Go.Proofs.YtachglfhgcdobaaW.PrintLast
set_option linter.unusedVariables false
theorem mn_le {a b : Int} : mn a b ≤ a ∧ mn a b ≤ b ∧ (mn a b = a ∨ mn a b = b) := by unfold mn; split <;> omega
theorem mx_le {a b : Int} : a ≤ mx a b ∧ b ≤ mx a b ∧ (mx a b = a ∨ mx a b = b) := by unfold mx; split <;> omega
theorem mn4 {a b c d : Int} : mn (mn (mn (mn a a) b) c) d ≤ a ∧ mn (mn (mn (mn a a) b) c) d ≤ b ∧ mn (mn (mn (mn a a) b) c) d ≤ c ∧ mn (mn (mn (mn a a) b) c) d ≤ d ∧ (mn (mn (mn (mn a a) b) c) d = a ∨ mn (mn (mn (mn a a) b) c) d = b ∨ mn (mn (mn (mn a a) b) c) d = c ∨ mn (mn (mn (mn a a) b) c) d = d) := by
  have b1 := @mn_le a a
  have b2 := @mn_le (mn a a) b
  have b3 := @mn_le (mn (mn a a) b) c
  have b4 := @mn_le (mn (mn (mn a a) b) c) d
  omega
theorem mx4 {a b c d : Int} : a ≤ mx (mx (mx (mx a a) b) c) d ∧ b ≤ mx (mx (mx (mx a a) b) c) d ∧ c ≤ mx (mx (mx (mx a a) b) c) d ∧ d ≤ mx (mx (mx (mx a a) b) c) d ∧ (mx (mx (mx (mx a a) b) c) d = a ∨ mx (mx (mx (mx a a) b) c) d = b ∨ mx (mx (mx (mx a a) b) c) d = c ∨ mx (mx (mx (mx a a) b) c) d = d) := by
  have b1 := @mx_le a a
  have b2 := @mx_le (mx a a) b
  have b3 := @mx_le (mx (mx a a) b) c
  have b4 := @mx_le (mx (mx (mx a a) b) c) d
  omega
theorem frac_between {n s g m t L M : Int} (g0 : 0 < g) (e1 : n = g * m) (e2 : s = g * t) (h1 : L * s ≤ n) (h2 : n ≤ M * s) : L * t ≤ m ∧ m ≤ M * t := by
  constructor
  · refine Int.le_of_mul_le_mul_left (a := g) ?_ g0
    rw [← e1, ← Int.mul_assoc, Int.mul_comm _ L, Int.mul_assoc, ← e2]; exact h1
  · refine Int.le_of_mul_le_mul_left (a := g) ?_ g0
    rw [← e1, ← Int.mul_assoc, Int.mul_comm _ M, Int.mul_assoc, ← e2]; exact h2
theorem frac_small {s g m t L M : Int} (g0 : 0 < g) (t0 : 0 < t) (e2 : s = g * t) (hs : s ≤ 1048576) (hL : -10000 ≤ L) (hM : M ≤ 10000) (h1 : L * t ≤ m) (h2 : m ≤ M * t) : t ≤ 1048576 ∧ -99999999999 ≤ m ∧ m ≤ 99999999999 := by
  have ts : t ≤ s := by
    have : 1 * t ≤ g * t := Int.mul_le_mul_of_nonneg_right (by omega) (by omega)
    omega
  have p1 : -10000 * t ≤ L * t := Int.mul_le_mul_of_nonneg_right hL (by omega)
  have p2 : M * t ≤ 10000 * t := Int.mul_le_mul_of_nonneg_right hM (by omega)
  omega
theorem cmp_le {n1 d1 n2 d2 : Int} (h : n1 * d2 ≤ n2 * d1) : cmpS n1 d1 n2 d2 ≤ 0 := by
  unfold cmpS
  split
  · rcases sgn_range (n1 * d2) (n2 * d1) with ⟨e, h'⟩ | ⟨e, h'⟩ | ⟨e, h'⟩ <;> omega
  · decide
theorem small64 {m : Int} (h : -99999999999 ≤ m ∧ m ≤ 99999999999) : -9223372036854775808 ≤ m ∧ m ≤ 9223372036854775807 := by omega
theorem small64t {t : Int} (h0 : 0 < t) (h : t ≤ 1048576) : -9223372036854775808 ≤ t ∧ t ≤ 9223372036854775807 := by omega
theorem small64h {m : Int} (h : -10000 ≤ m ∧ m ≤ 10000) : -9223372036854775808 ≤ m ∧ m ≤ 9223372036854775807 := by omega
theorem rounds_left {k : Nat} (h : 9223372036854785000 ≤ k + 7) : 9223372036854775820 ≤ k := by omega
theorem fold_mn : ∀ (l : List Int) (a : Int), l.foldl mn a ≤ a ∧ ∀ v ∈ l, l.foldl mn a ≤ v
  | [], a => ⟨Int.le_refl _, fun v h => absurd h (by simp)⟩
  | x :: l, a => by
    obtain ⟨h1, h2⟩ := fold_mn l (mn a x)
    have hm := @mn_le a x
    rw [List.foldl_cons]
    refine ⟨by omega, fun v hv => ?_⟩
    rcases List.mem_cons.1 hv with rfl | hv
    · omega
    · exact h2 v hv
theorem fold_mx : ∀ (l : List Int) (a : Int), a ≤ l.foldl mx a ∧ ∀ v ∈ l, v ≤ l.foldl mx a
  | [], a => ⟨Int.le_refl _, fun v h => absurd h (by simp)⟩
  | x :: l, a => by
    obtain ⟨h1, h2⟩ := fold_mx l (mx a x)
    have hm := @mx_le a x
    rw [List.foldl_cons]
    refine ⟨by omega, fun v hv => ?_⟩
    rcases List.mem_cons.1 hv with rfl | hv
    · omega
    · exact h2 v hv
theorem ext_all {l : List Int} {i : Int} (h0 : 0 ≤ i) (h1 : i < l.length) : (l.drop 1).foldl mn (rd l 0) ≤ rd l i ∧ rd l i ≤ (l.drop 1).foldl mx (rd l 0) := by
  obtain ⟨n, rfl⟩ : ∃ n : Nat, i = n := ⟨i.toNat, by omega⟩
  obtain ⟨a1, a2⟩ := fold_mn (l.drop 1) (rd l 0)
  obtain ⟨b1, b2⟩ := fold_mx (l.drop 1) (rd l 0)
  have hn : n < l.length := by omega
  by_cases hz : n = 0
  · subst hz; exact ⟨a1, b1⟩
  · have hm : l[n] ∈ l.drop 1 := by
      rw [List.mem_iff_getElem]
      refine ⟨n - 1, by rw [List.length_drop]; omega, ?_⟩
      rw [List.getElem_drop]; congr 1; omega
    rw [rd_get l n hn]
    exact ⟨a2 _ hm, b2 _ hm⟩
theorem interp_between {s a b c d u v L M : Int} (ha : L ≤ a ∧ a ≤ M) (hb : L ≤ b ∧ b ≤ M) (hc : L ≤ c ∧ c ≤ M) (hd : L ≤ d ∧ d ≤ M) (hu : 0 ≤ u ∧ u ≤ s) (hv : 0 ≤ v ∧ v ≤ s) : L * s ≤ interp s a b c d u v ∧ interp s a b c d u v ≤ M * s := by
  have key : ∀ p q t : Int, ∀ A B C : Int, 0 ≤ p → 0 ≤ q → 0 ≤ t → p + q + t = s → (L ≤ A ∧ A ≤ M) → (L ≤ B ∧ B ≤ M) → (L ≤ C ∧ C ≤ M) → L * s ≤ A * p + B * q + C * t ∧ A * p + B * q + C * t ≤ M * s := by
    intro p q t A B C h1 h2 h3 h4 h5 h6 h7
    have l1 := Int.mul_le_mul_of_nonneg_right h5.1 h1
    have l2 := Int.mul_le_mul_of_nonneg_right h6.1 h2
    have l3 := Int.mul_le_mul_of_nonneg_right h7.1 h3
    have m1 := Int.mul_le_mul_of_nonneg_right h5.2 h1
    have m2 := Int.mul_le_mul_of_nonneg_right h6.2 h2
    have m3 := Int.mul_le_mul_of_nonneg_right h7.2 h3
    rw [← h4, Int.mul_add, Int.mul_add, Int.mul_add, Int.mul_add]
    omega
  unfold interp
  by_cases h : u ≥ v
  · rw [if_pos h]
    have k := key (s - u) (u - v) v a b d (by omega) (by omega) (by omega) (by omega) ha hb hd
    rw [Int.mul_sub, Int.mul_sub] at k
    rw [Int.sub_mul, Int.sub_mul]
    omega
  · rw [if_neg h]
    have k := key (s - v) (v - u) u a c d (by omega) (by omega) (by omega) (by omega) ha hc hd
    rw [Int.mul_sub, Int.mul_sub] at k
    rw [Int.sub_mul, Int.sub_mul]
    omega
section
set_option linter.unusedSectionVars false
variable {x y c r s : Int} {l : List Int} (hf : fits x y c r s) (hn : (l.length : Int) = c * r) (hb : hasBad l = false)
include hf hn hb
theorem numS_at {p q : Int} (hp : 0 ≤ p ∧ p < c) (hq : 0 ≤ q ∧ q < r) : reach x y c r s (x + p * s) (y + q * s) ∧ numS x y c r s l (x + p * s) (y + q * s) = hgt l c p q * s := by
  have fs := hf.2.2.2.2.1
  have a1 := at_le hf.1 hf.2.2.1 fs hp
  have a2 := at_le hf.2.1 hf.2.2.2.1 fs hq
  refine ⟨by unfold reach; omega, ?_⟩
  have cell : ∀ z w n : Int, cellI z s n (z + w * s) = mn w (n - 2) := by
    intro z w n
    unfold cellI
    rw [show z + w * s - z = w * s by omega, Int.mul_ediv_cancel w (by omega)]
  unfold numS
  rw [cell x p c, cell y q r]
  have e : ∀ w n : Int, w < n → (mn w (n - 2) = w ∧ w ≤ n - 2) ∨ (mn w (n - 2) = n - 2 ∧ w = n - 1) := by
    intro w n h; unfold mn; split <;> omega
  have hs : ∀ w : Int, w - 1 + 1 = w := fun w => by omega
  have m1 : ∀ w : Int, (w - 1) * s = w * s - s := fun w => by rw [Int.sub_mul, Int.one_mul]
  rcases e p c hp.2 with ⟨e1, h1⟩ | ⟨e1, h1⟩ <;> rcases e q r hq.2 with ⟨e2, h2⟩ | ⟨e2, h2⟩
  · rw [e1, e2, show x + p * s - x - p * s = 0 by omega, show y + q * s - y - q * s = 0 by omega]
    unfold interp; rw [if_pos (by omega), Int.mul_zero, Int.mul_zero]; omega
  · rw [e1, e2, show r - 2 = q - 1 by omega, show x + p * s - x - p * s = 0 by omega, show y + q * s - y - (q - 1) * s = s by rw [m1]; omega, hs]
    unfold interp; rw [if_neg (by omega), Int.mul_zero, Int.sub_mul]; omega
  · rw [e1, e2, show c - 2 = p - 1 by omega, show x + p * s - x - (p - 1) * s = s by rw [m1]; omega, show y + q * s - y - q * s = 0 by omega, hs]
    unfold interp; rw [if_pos (by omega), Int.mul_zero, Int.sub_mul]; omega
  · rw [e1, e2, show c - 2 = p - 1 by omega, show r - 2 = q - 1 by omega, show x + p * s - x - (p - 1) * s = s by rw [m1]; omega, show y + q * s - y - (q - 1) * s = s by rw [m1]; omega, hs, hs]
    unfold interp; rw [if_pos (by omega), Int.sub_mul, Int.sub_mul]; omega
end
end Go.Proofs.Ytachglfhgcdobaa.PAll
end
section
namespace Go.Proofs.Ytachglfhgcdobaa.Pure
open Go.RowKit Go.Proofs.Ytachglfhgcdobaa.PAll Go.Proofs.YtachglfhgcdobaaW.PrintWords Go.Proofs.YtachglfhgcdobaaW.PrintLast
theorem TerrainBetween : mapsheetslaw43_TerrainBetween.Pure := by
  intro x y c r s l X Y a b w1 w2 w3 w4 w5 w6 w7 w8 w9 w10 w11
  have hX := i64wf w8
  have hY := i64wf w9
  suffices h : ∀ k, 9223372036854785000 ≤ k → mapsheetslaw43_TerrainBetween.f k x y c r s l X Y a b = some true from ⟨9223372036854785000, h _ (Nat.le_refl _)⟩
  intro k hk
  obtain ⟨k, rfl⟩ : ∃ j, k = j + 7 := ⟨k - 7, by omega⟩
  have j0t : mapsheetslaw43_TerrainBetween.j0 (k + 7) a b true x y c r s l X Y = some true := by
    rw [mapsheetslaw43_TerrainBetween.j0, if_pos rfl, awake_eq _ (by omega), Option.bind_some]
  unfold mapsheetslaw43_TerrainBetween.f
  rw [light_eq, Option.bind_some]
  by_cases hl' : (l.length : Int) ≤ 4200
  case neg => rw [if_neg (by rw [decide_eq_true_eq]; exact hl'), j0t]
  have hl : l.length ≤ 4200 := by omega
  rw [if_pos (decide_eq_true hl'), terrain_Check_eq x y c r s l hl _ (by omega), Option.bind_some]
  by_cases h0 : chkS x y c r s l = 0
  case neg => rw [bne_iff_ne.2 h0, j0t]
  obtain ⟨hf, hn, hb⟩ := chkS_zero h0
  have hc := hf.2.2.1
  have hr := hf.2.2.2.1
  have fs := hf.2.2.2.2.1
  have stx := steps_le hc fs
  have sty := steps_le hr fs
  have hfX := hf.2.2.2.2.2.1
  have hfY := hf.2.2.2.2.2.2
  have vin : ∀ p q : Int, (0 ≤ p ∧ p < c) → (0 ≤ q ∧ q < r) → valS x y c r s l p q = (hgt l c p q, 0) := by
    intro p q hp hq; unfold valS hgt; rw [if_pos h0, if_pos ⟨hp, hq⟩]
  have j1ok : mapsheetslaw43_TerrainBetween.j1 (k + 6) x y c r s l X Y = some true := by
    rw [mapsheetslaw43_TerrainBetween.j1, terrain_Height_eq x y c r s l hl hX hY _ (by omega), Option.bind_some]
    by_cases hre : reach x y c r s X Y
    case neg =>
      have : heightS x y c r s l X Y = (0, 0, 7) := by unfold heightS; rw [if_pos h0, if_neg hre]
      rw [this, if_neg (by decide), awake_eq _ (by omega), Option.bind_some]; rfl
    have nr := numS_range hf hn hb hre
    obtain ⟨m, t, e1, e2, g0, t0, e3⟩ := makeS_form (n := numS x y c r s l X Y) (by omega) fs
    have hH : heightS x y c r s l X Y = (m, t, 0) := by unfold heightS; rw [if_pos h0, if_pos hre, e3]
    have hv : validS m t = true := by have := makeS_valid (a := numS x y c r s l X Y) (b := s) (by rw [e3]); rw [e3] at this; exact this
    obtain ⟨eC, C0, C1, u0, u1, CS0, CS1⟩ := cell_ok (X := X) hf.1 hc fs hre.1 hfX
    obtain ⟨eR, R0, R1, v0, v1, RS0, RS1⟩ := cell_ok (X := Y) hf.2.1 hr fs hre.2 hfY
    rw [hH]
    dsimp only
    rw [if_pos rfl, if_neg (by omega), if_neg (by omega), eC, eR]
    have hnum : numS x y c r s l X Y = interp s (hgt l c (cellI x s c X) (cellI y s r Y)) (hgt l c (cellI x s c X + 1) (cellI y s r Y)) (hgt l c (cellI x s c X) (cellI y s r Y + 1)) (hgt l c (cellI x s c X + 1) (cellI y s r Y + 1)) (X - x - cellI x s c X * s) (Y - y - cellI y s r Y * s) := rfl
    generalize cellI x s c X = col at *
    generalize cellI y s r Y = row at *
    have i0 : Int.tmod 0 2 = 0 := rfl
    have i1 : Int.tmod 1 2 = 1 := rfl
    have i2 : Int.tmod 2 2 = 0 := rfl
    have i3 : Int.tmod 3 2 = 1 := rfl
    have d0 : Int.tdiv 0 2 = 0 := rfl
    have d1 : Int.tdiv 1 2 = 0 := rfl
    have d2 : Int.tdiv 2 2 = 1 := rfl
    have d3 : Int.tdiv 3 2 = 1 := rfl
    have n1 : wrap64 ((0 : Int) + 1) = 1 := by unfold wrap64; omega
    have n2 : wrap64 ((1 : Int) + 1) = 2 := by unfold wrap64; omega
    have n3 : wrap64 ((2 : Int) + 1) = 3 := by unfold wrap64; omega
    have n4 : wrap64 ((3 : Int) + 1) = 4 := by unfold wrap64; omega
    have z0 : wrap64 0 = 0 := by unfold wrap64; omega
    have z1 : wrap64 1 = 1 := by unfold wrap64; omega
    have c0 : wrap64 (col + 0) = col := by rw [w64 (by omega)]; omega
    have c1 : wrap64 (col + 1) = col + 1 := w64 (by omega)
    have r0 : wrap64 (row + 0) = row := by rw [w64 (by omega)]; omega
    have r1 : wrap64 (row + 1) = row + 1 := w64 (by omega)
    have q00 := cell_lt (c := c) (r := r) (a := col) (b := row) (by omega) (by omega)
    have q10 := cell_lt (c := c) (r := r) (a := col + 1) (b := row) (by omega) (by omega)
    have q01 := cell_lt (c := c) (r := r) (a := col) (b := row + 1) (by omega) (by omega)
    have q11 := cell_lt (c := c) (r := r) (a := col + 1) (b := row + 1) (by omega) (by omega)
    have x00 := ext_all (l := l) q00.1 (by omega)
    have x10 := ext_all (l := l) q10.1 (by omega)
    have x01 := ext_all (l := l) q01.1 (by omega)
    have x11 := ext_all (l := l) q11.1 (by omega)
    have g00 := hgt_range hf hn hb (a := col) (b := row) (by omega) (by omega)
    have g10 := hgt_range hf hn hb (a := col + 1) (b := row) (by omega) (by omega)
    have g01 := hgt_range hf hn hb (a := col) (b := row + 1) (by omega) (by omega)
    have g11 := hgt_range hf hn hb (a := col + 1) (b := row + 1) (by omega) (by omega)
    rw [mapsheetslaw43_TerrainBetween.l0, if_pos (by decide), i0, d0, z0, c0, r0, terrain_Value_eq x y c r s l hl _ _ _ (by omega), Option.bind_some, vin _ _ (by omega) (by omega)]
    dsimp only
    rw [if_pos rfl, if_pos rfl, n1]
    rw [mapsheetslaw43_TerrainBetween.l0, if_pos (by decide), i1, d1, z0, c1, r0, terrain_Value_eq x y c r s l hl _ _ _ (by omega), Option.bind_some, vin _ _ (by omega) (by omega)]
    dsimp only
    rw [if_pos rfl, if_neg (by decide), n2]
    rw [mapsheetslaw43_TerrainBetween.l0, if_pos (by decide), i2, d2, z1, c0, r1, terrain_Value_eq x y c r s l hl _ _ _ (by omega), Option.bind_some, vin _ _ (by omega) (by omega)]
    dsimp only
    rw [if_pos rfl, if_neg (by decide), n3]
    rw [mapsheetslaw43_TerrainBetween.l0, if_pos (by decide), i3, d3, z1, c1, r1, terrain_Value_eq x y c r s l hl _ _ _ (by omega), Option.bind_some, vin _ _ (by omega) (by omega)]
    dsimp only
    rw [if_pos rfl, if_neg (by decide), n4]
    rw [mapsheetslaw43_TerrainBetween.l0, if_neg (by decide), terrain_Extent_eq x y c r s l hl _ (by omega), Option.bind_some, awake_eq _ (by omega), Option.bind_some, if_pos rfl]
    have hE : extS x y c r s l = ((l.drop 1).foldl mn (rd l 0), (l.drop 1).foldl mx (rd l 0), 0) := by unfold extS; rw [if_pos h0]
    rw [hE]
    dsimp only
    rw [if_pos rfl]
    obtain ⟨least, hle⟩ : ∃ z, z = mn (mn (mn (mn (hgt l c col row) (hgt l c col row)) (hgt l c (col + 1) row)) (hgt l c col (row + 1))) (hgt l c (col + 1) (row + 1)) := ⟨_, rfl⟩
    obtain ⟨most, hmo⟩ : ∃ z, z = mx (mx (mx (mx (hgt l c col row) (hgt l c col row)) (hgt l c (col + 1) row)) (hgt l c col (row + 1))) (hgt l c (col + 1) (row + 1)) := ⟨_, rfl⟩
    rw [← hle, ← hmo]
    have y00 : (l.drop 1).foldl mn (rd l 0) ≤ hgt l c col row ∧ hgt l c col row ≤ (l.drop 1).foldl mx (rd l 0) := x00
    have y10 : (l.drop 1).foldl mn (rd l 0) ≤ hgt l c (col + 1) row ∧ hgt l c (col + 1) row ≤ (l.drop 1).foldl mx (rd l 0) := x10
    have y01 : (l.drop 1).foldl mn (rd l 0) ≤ hgt l c col (row + 1) ∧ hgt l c col (row + 1) ≤ (l.drop 1).foldl mx (rd l 0) := x01
    have y11 : (l.drop 1).foldl mn (rd l 0) ≤ hgt l c (col + 1) (row + 1) ∧ hgt l c (col + 1) (row + 1) ≤ (l.drop 1).foldl mx (rd l 0) := x11
    clear x00 x10 x01 x11 q00 q10 q01 q11
    have hb2 := interp_between (s := s) (L := least) (M := most) (a := hgt l c col row) (b := hgt l c (col + 1) row) (c := hgt l c col (row + 1)) (d := hgt l c (col + 1) (row + 1)) (u := X - x - col * s) (v := Y - y - row * s)
    rw [← hnum] at hb2
    generalize hgt l c col row = h00 at *
    generalize hgt l c (col + 1) row = h10 at *
    generalize hgt l c col (row + 1) = h01 at *
    generalize hgt l c (col + 1) (row + 1) = h11 at *
    generalize (l.drop 1).foldl mn (rd l 0) = LO at *
    generalize (l.drop 1).foldl mx (rd l 0) = HI at *
    have b4 := @mn4 h00 h10 h01 h11
    have t4 := @mx4 h00 h10 h01 h11
    rw [← hle] at b4
    rw [← hmo] at t4
    clear hle hmo hnum eC eR n1 n2 n3 n4 z0 z1 c0 c1 r0 r1 i0 i1 i2 i3 d0 d1 d2 d3 nr stx sty hfX hfY
    obtain ⟨lo_le, le_hi⟩ := hb2 ⟨b4.1, t4.1⟩ ⟨b4.2.1, t4.2.1⟩ ⟨b4.2.2.1, t4.2.2.1⟩ ⟨b4.2.2.2.1, t4.2.2.2.1⟩ ⟨u0, u1⟩ ⟨v0, v1⟩
    have lr : -10000 ≤ least ∧ least ≤ 10000 := by clear hb2 u0 u1 v0 v1 CS0 CS1 RS0 RS1 e1 e2; omega
    have mr0 : -10000 ≤ most ∧ most ≤ 10000 := by clear hb2 u0 u1 v0 v1 CS0 CS1 RS0 RS1 e1 e2; omega
    obtain ⟨lt1, lt2⟩ := frac_between g0 e1 e2 lo_le le_hi
    obtain ⟨ts, mr⟩ := frac_small g0 t0 e2 fs.2 lr.1 mr0.2 lt1 lt2
    have s1 : cmpS least 1 m t ≤ 0 := cmp_le (by rw [Int.mul_one]; exact lt1)
    have s2 : cmpS m t most 1 ≤ 0 := cmp_le (by rw [Int.mul_one]; exact lt2)
    have f1 : LO ≤ least := by clear hb2 u0 u1 v0 v1 CS0 CS1 RS0 RS1 e1 e2; omega
    have f2 : most ≤ HI := by clear hb2 u0 u1 v0 v1 CS0 CS1 RS0 RS1 e1 e2; omega
    have m64 := small64 mr
    have t64 := small64t t0 ts
    have l64 := small64h lr
    have o64 := small64h mr0
    have hk1 := rounds_left hk
    rw [mapsheetslaw43_whole.f, Option.bind_some]
    dsimp only
    rw [num_Cmp_eq l64 (by decide) m64 t64 _ hk1, Option.bind_some, if_pos s1, mapsheetslaw43_whole.f, Option.bind_some]
    dsimp only
    rw [num_Cmp_eq m64 t64 o64 (by decide) _ hk1, Option.bind_some, if_pos s2, if_pos f1, decide_eq_true f2]
  rw [h0, bne_self_eq_false, mapsheetslaw43_TerrainBetween.j0, if_neg (by decide), terrain_Value_eq x y c r s l hl a b _ (by omega), Option.bind_some]
  by_cases hi : (0 ≤ a ∧ a < c) ∧ (0 ≤ b ∧ b < r)
  case neg =>
    have : valS x y c r s l a b = (0, 7) := by unfold valS; rw [if_pos h0, if_neg hi]
    rw [this, if_neg (by decide), j1ok]
  rw [vin a b hi.1 hi.2]
  dsimp only
  have a1 := at_le hf.1 hc fs hi.1
  have a2 := at_le hf.2.1 hr fs hi.2
  have hg := hgt_range hf hn hb hi.1 hi.2
  obtain ⟨n1, n2⟩ := numS_at hf hn hb hi.1 hi.2
  have hfx := hf.1
  have hfy := hf.2.1
  have hH : heightS x y c r s l (x + a * s) (y + b * s) = (hgt l c a b, 1, 0) := by unfold heightS; rw [if_pos h0, if_pos n1, n2, makeS_whole hg fs]
  rw [if_pos rfl, a1.1, a2.1, terrain_Height_eq x y c r s l hl (by omega) (by omega) _ (by omega), Option.bind_some, hH, mapsheetslaw43_whole.f, Option.bind_some, beq_self_eq_true, beq_self_eq_true, if_neg (by decide), if_pos rfl, j1ok]
end Go.Proofs.Ytachglfhgcdobaa.Pure
end
section
namespace Go.Proofs.YtachglfhgcdobaaOpen
open Go.RowKit Go.Proofs.YtachglfhgcdobaaW.PrintWords
set_option linter.unusedVariables false
theorem choose_list {α : Type} {Q : Nat → α → Prop} : ∀ n, (∀ i, i < n → ∃ x, Q i x) → ∃ xs : List α, xs.length = n ∧ ∀ (i : Nat) (x : α), xs[i]? = some x → Q i x
  | 0, _ => ⟨[], rfl, fun i x h => by simp at h⟩
  | n + 1, h => by
    obtain ⟨xs, hl, hq⟩ := choose_list n (fun i hi => h i (by omega))
    obtain ⟨x, hx⟩ := h n (by omega)
    refine ⟨xs ++ [x], by simp [hl], fun i y hy => ?_⟩
    rcases Nat.lt_or_ge i xs.length with hlt | hge
    · rw [List.getElem?_append_left hlt] at hy; exact hq i y hy
    · rw [List.getElem?_append_right hge] at hy
      have : i - xs.length = 0 := by
        rcases Nat.eq_zero_or_pos (i - xs.length) with h0 | h0
        · exact h0
        · rw [List.getElem?_eq_none (by simp; omega)] at hy; cases hy
      rw [this] at hy
      simp at hy
      subst hy
      have : i = n := by omega
      subst this
      exact hx
def Opens {α : Type} (P : Program) (t : TypeId) (d : Kd α) (wf : α → Prop) : Prop :=
  ∀ (H : Type) (enc : TypeId × Value → H) (W : World) (fuel : Nat) (cs : List Value) (dd : DataW H) (ps : List MemPlace),
    DataW.trod enc P W 0 (fun _ => true) true fuel t cs = some (dd, ps) → (∀ n ∈ dd.weights P t, n ≤ reachBytes) → ∃ x, d.K W x cs ∧ wf x
section
variable {P : Program} {t : TypeId}
theorem Opens.int {k : IntKind} (hu : P.underlying t = some (.int k)) : Opens P t (Kd.int k) (fun x => (Lit.int k x).wf = true) := by
  intro H enc W fuel cs dd ps h hz
  obtain ⟨n, rfl, _, hw⟩ := DataW.trod_int hu h
  exact ⟨n, rfl, hw⟩
theorem Opens.bool (hu : P.underlying t = some .bool) : Opens P t Kd.bool (fun _ => True) := by
  intro H enc W fuel cs dd ps h hz
  obtain ⟨n, rfl, _⟩ := DataW.trod_bool hu h
  exact ⟨n, rfl, trivial⟩
theorem Opens.iso {α β : Type} {d : Kd α} {wf : α → Prop} (h : Opens P t d wf) (f : β → α) (g : α → β) (hg : ∀ y, f (g y) = y) : Opens P t (Kd.iso d f) (fun x => wf (f x)) := by
  intro H enc W fuel cs dd ps hh hz
  obtain ⟨x, hK, hw⟩ := h H enc W fuel cs dd ps hh hz
  exact ⟨g x, by show d.K W (f (g x)) cs; rw [hg]; exact hK, by show wf (f (g x)); rw [hg]; exact hw⟩
theorem weightsAll_mem {H : Type} {e : TypeId} : ∀ {ds : List (DataW H)} {d : DataW H}, d ∈ ds → ∀ n ∈ d.weights P e, n ∈ DataW.weightsAll P e ds
  | d0 :: ds, d, hd, n, hn => by
    rw [DataW.weightsAll, List.mem_append]
    rcases List.mem_cons.1 hd with rfl | hd
    · exact .inl hn
    · exact .inr (weightsAll_mem hd n hn)
theorem Opens.slice {α : Type} {d : Kd α} {wf : α → Prop} {e : TypeId} {B : Nat} (hu : P.underlying t = some (.slice e)) (h : Opens P e d wf) (hc : P.cellsOf e = d.sz) (hB : P.bytesOf e = B) :
    Opens P t (Kd.slice e d) (fun xs => xs.length * B ≤ 140737488351232 ∧ ∀ x ∈ xs, wf x) := by
  intro H enc W fuel cs dd ps hh hz
  rcases Deep.open_slice hu hh with ⟨rfl, _⟩ | ⟨a, len, cap, m, n, D, Pl, rfl, _, hl, hm, hmm, hx, hel⟩
  · exact ⟨[], ⟨none, 0, rfl, Nat.le_refl _, rfl, by simp, fun h0 => absurd h0 (by simp)⟩, by simp, by simp⟩
  obtain ⟨rfl, _⟩ := Prod.mk.inj hx
  simp only [if_true] at hmm
  subst hmm
  have hw1 : (len + (m - len)) * P.bytesOf e ≤ reachBytes := hz _ (by simp [DataW.weights, hu])
  have key : ∀ i, i < len → ∃ x, wf x ∧ ∃ c, c.length = d.sz ∧ d.K W x c ∧ ∀ j u, c[j]? = some u → W.cell? (a.add (i * d.sz + j)) = some u := by
    intro i hi
    obtain ⟨cs', h1, h2⟩ := hel i (by omega)
    obtain ⟨x, hK, hw⟩ := h H enc W n cs' (D i) (Pl i) h2 (fun n hn => hz n (by
      simp only [DataW.weights, hu, List.mem_cons, List.mem_append]
      exact .inr (.inl (weightsAll_mem (List.mem_map.2 ⟨i, by simpa using hi, rfl⟩) n hn))))
    obtain ⟨_, hlen, hcell⟩ := World.cells?_some h1
    refine ⟨x, hw, cs', by rw [hlen, hc], hK, fun j u hu' => ?_⟩
    have hj : j < P.cellsOf e := by rw [← hlen]; exact (List.getElem?_eq_some_iff.1 hu').1
    have := hcell j hj
    rw [Addr.add_add, hc] at this
    rw [this, hu']
  obtain ⟨xs, hxl, hxs⟩ := choose_list len key
  subst hxl
  refine ⟨xs, ⟨some a, m, rfl, hl, rfl, by unfold maxLen at hm; omega, fun _ => ⟨a, rfl, fun j p hj => (hxs j p hj).2⟩⟩, ?_, ?_⟩
  · rw [hB] at hw1
    exact Nat.le_trans (Nat.mul_le_mul_right _ (by omega)) hw1
  · intro x hx
    obtain ⟨i, hi⟩ := List.getElem?_of_mem hx
    exact (hxs i x hi).1
def OpensP {α : Type} (P : Program) (o : Nat) (L : List (TypeId × Nat)) (e : Nat) (d : Kd α) (wf : α → Prop) : Prop :=
  ∀ (H : Type) (enc : TypeId × Value → H) (W : World) (n : Nat) (cs : List Value) (xs : List (DataW H × List MemPlace)), cs.length = e → xs.length = L.length →
    (∀ (i : Nat) (f : TypeId × Nat), L[i]? = some f → DataW.trod enc P W 0 (fun _ => true) true n f.1 ((cs.drop f.2).take (P.cellsOf f.1)) = xs[i]?) →
    (∀ k ∈ DataW.weightsEach P (L.map (·.1)) (xs.map (·.1)), k ≤ reachBytes) → ∃ x, d.K W x (cs.drop o) ∧ wf x
theorem OpensP.one {α : Type} {d : Kd α} {wf : α → Prop} {o s e : Nat} (h : Opens P t d wf) (hs : P.cellsOf t = s) (he : o + s = e) : OpensP P o [(t, o)] e d wf := by
  subst he hs
  intro H enc W n cs xs hcs hxs hf hz
  have h1 := hf 0 (t, o) rfl
  rw [List.take_of_length_le (by show (cs.drop o).length ≤ P.cellsOf t; rw [List.length_drop]; omega)] at h1
  rw [List.getElem?_eq_getElem (by rw [hxs]; exact Nat.zero_lt_one)] at h1
  match xs, hxs with
  | [x0], _ =>
    exact h H enc W n _ x0.1 x0.2 (by simpa using h1) (fun k hk => hz k (by simp [DataW.weightsEach, hk]))
theorem OpensP.cons {α β : Type} {d : Kd α} {d2 : Kd β} {wf : α → Prop} {wf2 : β → Prop} {o s o2 e : Nat} {L : List (TypeId × Nat)} (h : Opens P t d wf) (hs : P.cellsOf t = s) (he : o + s = o2) (h2 : OpensP P o2 L e d2 wf2) :
    OpensP P o ((t, o) :: L) e (Kd.pair d d2) (fun x => wf x.1 ∧ wf2 x.2) := by
  subst he hs
  intro H enc W n cs xs hcs hxs hf hz
  match xs, hxs with
  | x0 :: xs, hxs =>
    have h1 := hf 0 (t, o) rfl
    obtain ⟨x, hK, hw⟩ := h H enc W n _ x0.1 x0.2 (by simpa using h1) (fun k hk => hz k (by simp [DataW.weightsEach, hk]))
    obtain ⟨y, hK2, hw2⟩ := h2 H enc W n cs xs hcs (by simpa using hxs) (fun i f hi => by simpa using hf (i + 1) f (by simpa using hi)) (fun k hk => hz k (by simp only [List.map_cons, DataW.weightsEach, List.mem_append]; exact .inr hk))
    refine ⟨(x, y), ⟨_, _, ?_, hK, hK2⟩, hw, hw2⟩
    rw [← List.drop_drop, List.take_append_drop]
theorem Opens.struct {α : Type} {d : Kd α} {wf : α → Prop} {fs : Array Field} {L : List (TypeId × Nat)} {e : Nat} (hu : P.underlying t = some (.struct fs)) (hL : fs.toList.map (fun f => (f.type, f.offset)) = L) (hc : P.cellsOf t = e) (h : OpensP P 0 L e d wf) : Opens P t d wf := by
  intro H enc W fuel cs dd ps hh hz
  obtain ⟨xs, n, rfl, hx, hcs, hxs, hf⟩ := DataW.trod_struct hu hh
  obtain ⟨rfl, _⟩ := Prod.mk.inj hx
  subst hL
  obtain ⟨x, hK, hw⟩ := h H enc W n cs xs (by rw [hcs, hc]) (by simpa using hxs) (fun i f hi => by
    rw [List.getElem?_map, Option.map_eq_some_iff] at hi
    obtain ⟨g, hg, rfl⟩ := hi
    exact hf i g (by simpa using hg)) (fun k hk => hz k (by
      simp only [DataW.weights, hu]
      rw [List.map_map] at hk
      exact hk))
  exact ⟨x, by simpa using hK, hw⟩
theorem okWide_agg_struct {W : World} {r : Reach} {base : Nat} {v : Value} {fs : Array Field} (hu : P.underlying t = some (.struct fs)) (h : Value.okWide P W r base t v) : ∃ cs, v = .agg cs := by
  unfold Value.okWide at h
  rw [hu] at h
  obtain ⟨cs, h, _⟩ := h
  exact ⟨cs, h⟩
theorem weightsEach_rep {H : Type} {e : TypeId} : ∀ (ds : List (DataW H)), DataW.weightsEach P (List.replicate ds.length e) ds = DataW.weightsAll P e ds
  | [] => by simp [DataW.weightsEach, DataW.weightsAll]
  | d :: ds => by rw [List.length_cons, List.replicate_succ, DataW.weightsEach, DataW.weightsAll, weightsEach_rep ds]
theorem Opens.array {α : Type} {d : Kd α} {wf : α → Prop} {n : Nat} {e : TypeId} {L : List (TypeId × Nat)} {z : Nat} (hu : P.underlying t = some (.array n e)) (hL : (List.range n).map (fun i => (e, i * P.cellsOf e)) = L) (hc : P.cellsOf t = z) (h : OpensP P 0 L z d wf) : Opens P t d wf := by
  intro H enc W fuel cs dd ps hh hz
  obtain ⟨xs, m, rfl, hx, hcs, hxs, hf⟩ := DataW.trod_array hu hh
  obtain ⟨rfl, _⟩ := Prod.mk.inj hx
  subst hL
  obtain ⟨x, hK, hw⟩ := h H enc W m cs xs (by rw [hcs, hc]) (by simpa using hxs) (fun i f hi => by
    rw [List.getElem?_map, Option.map_eq_some_iff] at hi
    obtain ⟨g, hg, rfl⟩ := hi
    obtain ⟨hlt, hg⟩ := List.getElem?_eq_some_iff.1 hg
    simp at hg hlt
    subst hg
    exact hf i hlt) (fun k hk => hz k (by
      simp only [DataW.weights, hu]
      rw [List.map_map] at hk
      rw [← weightsEach_rep]
      have : List.map ((fun x => x.1) ∘ fun i => (e, i * P.cellsOf e)) (List.range n) = List.replicate (xs.map (·.1)).length e := by
        rw [List.length_map, hxs]
        apply List.ext_getElem
        · simp
        · intro i h1 h2; simp
      rw [this] at hk
      exact hk))
  exact ⟨x, by simpa using hK, hw⟩
end
end Go.Proofs.YtachglfhgcdobaaOpen
end
section
namespace Go.Proofs.Ytachglfhgcdobaa.terrainBetween
open Go.ChangeShapes Go.WideShapes Go.ChangeAt Go.RowKit Go.Proofs.YtachglfhgcdobaaOpen Go.Proofs.Ytachglfhgcdobaa.PAll Go.Proofs.YtachglfhgcdobaaW.PrintWords Go.Proofs.YtachglfhgcdobaaW.PrintLast
open Go.ChangeMaps (open_string shut_string)
set_option linter.unusedVariables false
theorem own : ownKnob Try.prog.godebug = none := by kernel_rfl
theorem laidOut : laidOutB Try.prog = true := by kernel_rfl
theorem opens23 : Opens Try.prog 23 k23 wf23 := Opens.iso (Opens.struct (L := [(3, 0), (3, 1)]) (e := 2) Try.underlying23 (by first | rfl | kernel_rfl) (by kernel_rfl) (OpensP.cons (o := 0) (s := 1) (o2 := 1) (Opens.int Try.underlying3) (by kernel_rfl) rfl (OpensP.one (o := 1) (s := 1) (e := 2) (Opens.int Try.underlying3) (by kernel_rfl) rfl))) (fun x : S23 => (x.f0, x.f1)) (fun y => (⟨y.1, y.2⟩ : S23)) (fun _ => rfl)
theorem opens26 : Opens Try.prog 26 k26 wf26 := Opens.iso (Opens.struct (L := [(23, 0), (3, 2), (3, 3), (3, 4), (24, 5)]) (e := 6) Try.underlying26 (by first | rfl | kernel_rfl) (by kernel_rfl) (OpensP.cons (o := 0) (s := 2) (o2 := 2) opens23 (by kernel_rfl) rfl (OpensP.cons (o := 2) (s := 1) (o2 := 3) (Opens.int Try.underlying3) (by kernel_rfl) rfl (OpensP.cons (o := 3) (s := 1) (o2 := 4) (Opens.int Try.underlying3) (by kernel_rfl) rfl (OpensP.cons (o := 4) (s := 1) (o2 := 5) (Opens.int Try.underlying3) (by kernel_rfl) rfl (OpensP.one (o := 5) (s := 1) (e := 6) (Opens.slice (B := 8) Try.underlying24 (Opens.int Try.underlying3) (by kernel_rfl) (by kernel_rfl)) (by kernel_rfl) rfl)))))) (fun x : S26 => (x.f0, x.f1, x.f2, x.f3, x.f4)) (fun y => (⟨y.1, y.2.1, y.2.2.1, y.2.2.2.1, y.2.2.2.2⟩ : S26)) (fun _ => rfl)
set_option maxRecDepth 100000 in
theorem lifted (os : Os) (started : os.Started) (H : Type) (enc : TypeId × Value → H) :
    ReturnsInHanded {} Try.checked os 8 .any (Rows.terrainBetweenSpec.pre6 enc Try.prog Try.f8 Rows.terrainBetweenRow.domain false) (Rows.terrainBetweenSpec.post enc Try.prog Try.f8 false true false false) := by
  refine returnsInHanded_of_change_sized (C := Try.checked) own started (by kernel_rfl) Try.func8
    (ChangeSpec.witness6 (enc := enc) (C := Try.checked) false ⟨#[], #[.agg #[.int .i64 0, .int .i64 0, .int .i64 0, .int .i64 0, .int .i64 0, .slice none 0 0], .agg #[.int .i64 0, .int .i64 0], .int .i64 0, .int .i64 0], []⟩ 8 (by kernel_rfl) (by kernel_rfl) (by kernel_rfl) (by kernel_rfl)) ?_
  intro W base args ds gs before hval0 hW hcnd hsz0 _
  have hsz : (DataW.weightsEach Try.prog (Try.f8.params.toList ++ Rows.terrainBetweenSpec.plain.varTypes Try.prog) (ds ++ gs)).all (· ≤ reachBytes) = true := hsz0
  have hval : ∀ (j : Nat) t v, Try.f8.params[j]? = some t → args[j]? = some v → Value.okWide Try.prog W .any base t v := hval0
  have hW' := hW
  obtain ⟨p, q, hA0, hV, rfl, hfz, hnd⟩ := hW
  have hA : DataW.TrodAll enc Try.prog W 0 (fun _ => true) true Try.f8.params.toList args.toList ds p := hA0
  rw [Try.params8] at hA hval hsz
  obtain ⟨v0, vs0, d0, ds0, p0, q0, hargs, rfl, rfl, h0, r0⟩ := trodAll_cons hA
  obtain ⟨v1, vs1, d1, ds1, p1, q1, rfl, rfl, rfl, h1, r1⟩ := trodAll_cons r0
  obtain ⟨v2, vs2, d2, ds2, p2, q2, rfl, rfl, rfl, h2, r2⟩ := trodAll_cons r1
  obtain ⟨v3, vs3, d3, ds3, p3, q3, rfl, rfl, rfl, h3, r3⟩ := trodAll_cons r2
  obtain ⟨rfl, rfl, rfl⟩ := trodAll_nil r3
  obtain rfl : args = #[v0, v1, v2, v3] := by cases args; simp_all
  obtain ⟨rfl, rfl⟩ := trodVars_none hV
  have k0 := h0
  have lt0 : ∀ x ∈ p0, x.block < W.heap.size := by obtain ⟨m, hm⟩ := k0; exact DataW.trod_lt m _ _ _ hm
  have z0 : ∀ n ∈ d0.weights Try.prog 26, n ≤ reachBytes := fun n hn => by have := List.all_eq_true.1 hsz _ (DataW.weights_mem_each (j := 0) rfl rfl n hn); simpa using this
  obtain ⟨cs0, rfl⟩ := okWide_agg_struct Try.underlying26 (hval 0 26 v0 rfl rfl)
  obtain ⟨fu0, hf0⟩ := h0
  obtain ⟨x0, hK0, hw0⟩ := opens26 _ enc W fu0 _ _ _ hf0 z0
  have o0 := k26_open hK0
  obtain ⟨A0_5, c0_5, e0, hl0_5, hC0_5⟩ := o0
  have e0' : cs0 = #[.int .i64 x0.f0.f0, .int .i64 x0.f0.f1, .int .i64 x0.f1, .int .i64 x0.f2, .int .i64 x0.f3, .slice A0_5 x0.f4.length c0_5] := by apply Array.toList_inj.1; exact e0
  subst e0'
  obtain ⟨⟨hw0_0_0, hw0_0_1⟩, hw0_1, hw0_2, hw0_3, hw0_4⟩ := hw0
  have k1 := h1
  have lt1 : ∀ x ∈ p1, x.block < W.heap.size := by obtain ⟨m, hm⟩ := k1; exact DataW.trod_lt m _ _ _ hm
  have z1 : ∀ n ∈ d1.weights Try.prog 23, n ≤ reachBytes := fun n hn => by have := List.all_eq_true.1 hsz _ (DataW.weights_mem_each (j := 1) rfl rfl n hn); simpa using this
  obtain ⟨cs1, rfl⟩ := okWide_agg_struct Try.underlying23 (hval 1 23 v1 rfl rfl)
  obtain ⟨fu1, hf1⟩ := h1
  obtain ⟨x1, hK1, hw1⟩ := opens23 _ enc W fu1 _ _ _ hf1 z1
  have o1 := k23_open hK1
  have e1 := o1
  have e1' : cs1 = #[.int .i64 x1.f0, .int .i64 x1.f1] := by apply Array.toList_inj.1; exact e1
  subst e1'
  obtain ⟨hw1_0, hw1_1⟩ := hw1
  have k2 := h2
  have lt2 : ∀ x ∈ p2, x.block < W.heap.size := by obtain ⟨m, hm⟩ := k2; exact DataW.trod_lt m _ _ _ hm
  have z2 : ∀ n ∈ d2.weights Try.prog 3, n ≤ reachBytes := fun n hn => by have := List.all_eq_true.1 hsz _ (DataW.weights_mem_each (j := 2) rfl rfl n hn); simpa using this
  obtain ⟨a2, rfl, rfl, rfl, w2⟩ := open_int Try.underlying3 (hval 2 3 v2 rfl rfl) h2
  have k3 := h3
  have lt3 : ∀ x ∈ p3, x.block < W.heap.size := by obtain ⟨m, hm⟩ := k3; exact DataW.trod_lt m _ _ _ hm
  have z3 : ∀ n ∈ d3.weights Try.prog 3, n ≤ reachBytes := fun n hn => by have := List.all_eq_true.1 hsz _ (DataW.weights_mem_each (j := 3) rfl rfl n hn); simpa using this
  obtain ⟨a3, rfl, rfl, rfl, w3⟩ := open_int Try.underlying3 (hval 3 3 v3 rfl rfl) h3
  clear hA0 hval0 hsz0 hsz
  obtain ⟨k, hk⟩ := Pure.TerrainBetween x0.f0.f0 x0.f0.f1 x0.f1 x0.f2 x0.f3 x0.f4 x1.f0 x1.f1 a2 a3 hw0_0_0 hw0_0_1 hw0_1 hw0_2 hw0_3 hw0_4.1 hw0_4.2 hw1_0 hw1_1 w2 w3
  refine (mapsheetslaw43_TerrainBetween.calls k x0.f0.f0 x0.f0.f1 x0.f1 x0.f2 x0.f3 _ _ x0.f4 x1.f0 x1.f1 a2 a3 true W hC0_5 hl0_5 hk).mono fun e W' ⟨he, bel0⟩ => ?_
  have bel : Below W.heap.size W W' := bel0
  subst he
  exact ⟨_, rfl, _, _, _, [], _, [], hW', trodAll_mk1 (shut_bool Try.underlying4 _), (trodAll_cons_mk (Below.trod laidOut (by kernel_rfl) (of_decide_eq_true (by kernel_rfl)) k0 bel lt0) (trodAll_cons_mk (Below.trod laidOut (by kernel_rfl) (of_decide_eq_true (by kernel_rfl)) k1 bel lt1) (trodAll_cons_mk (Below.trod laidOut (by kernel_rfl) (of_decide_eq_true (by kernel_rfl)) k2 bel lt2) (trodAll_cons_mk (Below.trod laidOut (by kernel_rfl) (of_decide_eq_true (by kernel_rfl)) k3 bel lt3) trodAll_mk0)))), rfl, bel.frame _, fun h => by cases h⟩
theorem over : Rows.terrainBetweenRow.holds Try.pinned (OpenSpec.ofChange Rows.terrainBetweenSpec) :=
  OpenClaim.holds_of_wide 8 Try.f8 rfl rfl rfl rfl rfl rfl rfl ⟨rfl, rfl, rfl, rfl, rfl⟩ rfl rfl rfl rfl rfl (by kernel_rfl) Try.func8 (by kernel_rfl)
    (of_decide_eq_true (by kernel_rfl)) (by unfold Func.isWrapper; first | (rw [if_pos (by decide +kernel)]; kernel_rfl) | (rw [if_neg (by decide +kernel)]; exact ⟨rfl, rfl⟩))
    (fun os started H enc _ => lifted os started H enc)
theorem proved : Rows.TerrainBetweenSaid := over
#print axioms proved
end Go.Proofs.Ytachglfhgcdobaa.terrainBetween
namespace Go.Proofs.Ytachglfhgcdobaa
theorem terrainBetween_holds : Rows.TerrainBetweenSaid := terrainBetween.proved
end Go.Proofs.Ytachglfhgcdobaa
end
