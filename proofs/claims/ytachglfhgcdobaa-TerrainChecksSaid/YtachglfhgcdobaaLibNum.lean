/- Plain lemmas on the printed functions: numbers and lists alone, no program and no memory. -/
import Derived.Test.YtachglfhgcdobaaLibBase
import Derived.Test.YtachglfhgcdobaaPAllx6
import Derived.Test.YtachglfhgcdobaaPAllx7
namespace Go.Proofs.Ytachglfhgcdobaa.PAll
open Go.RowKit Go.Proofs.YtachglfhgcdobaaW.PrintWords Go.Proofs.YtachglfhgcdobaaW.PrintLast
set_option linter.unusedVariables false
/-! ### package num: what its functions compute -/
theorem w64 {x : Int} (h : -9223372036854775808 ≤ x ∧ x ≤ 9223372036854775807) : wrap64 x = x := by unfold wrap64; omega
theorem num_abs_eq {a : Int} (h : -9223372036854775808 ≤ a ∧ a ≤ 9223372036854775807) : num_abs.f a = some (a.natAbs : Int) := by
  unfold num_abs.f
  split
  · refine congrArg some ?_; simp only [u64w]; omega
  · refine congrArg some ?_; simp only [u64w]; omega
theorem num_gcd_eq : ∀ (k a b : Nat), b < k → num_gcd.f k a b = some (Nat.gcd a b : Int)
  | 0, a, b, h => absurd h (Nat.not_lt_zero _)
  | k + 1, a, b, h => by
    unfold num_gcd.f
    simp only [num_gcd.l0]
    by_cases hb : b = 0
    · subst hb; rw [if_pos (by simp)]; simp
    · rw [if_neg (by omega), ← Int.ofNat_tmod]
      have hlt : a % b < b := Nat.mod_lt a (by omega)
      have ih := num_gcd_eq k b (a % b) (by omega)
      unfold num_gcd.f at ih
      rw [ih]
      congr 2
      rw [Nat.gcd_comm, ← Nat.gcd_rec]
      exact Nat.gcd_comm b a
/-- The quotient, rounded down, and the remainder with the divisor's sign. -/
def flr (a b : Int) : Int := if 0 < b then a / b else (-a) / (-b)
def rst (a b : Int) : Int := if 0 < b then a % b else -((-a) % (-b))
theorem flr_rst (a b : Int) (hb : b ≠ 0) : a = flr a b * b + rst a b ∧ (0 < b → 0 ≤ rst a b ∧ rst a b < b) ∧ (b < 0 → b < rst a b ∧ rst a b ≤ 0) := by
  unfold flr rst
  by_cases h : 0 < b
  · rw [if_pos h, if_pos h]
    have h1 := Int.emod_add_mul_ediv a b
    rw [Int.mul_comm] at h1
    exact ⟨by omega, fun _ => ⟨Int.emod_nonneg a hb, Int.emod_lt_of_pos a h⟩, fun h' => by omega⟩
  · rw [if_neg h, if_neg h]
    have h1 := Int.emod_add_mul_ediv (-a) (-b)
    have h2 : (-b) * ((-a) / (-b)) = -(((-a) / (-b)) * b) := by rw [Int.neg_mul, Int.mul_comm]
    have h3 := Int.emod_nonneg (-a) (show -b ≠ 0 by omega)
    have h4 := Int.emod_lt_of_pos (-a) (show 0 < -b by omega)
    exact ⟨by omega, fun h' => by omega, fun _ => ⟨by omega, by omega⟩⟩
theorem flr_unique {a b q r : Int} (hb : b ≠ 0) (h : a = q * b + r) (h1 : 0 < b → 0 ≤ r ∧ r < b) (h2 : b < 0 → b < r ∧ r ≤ 0) : q = flr a b ∧ r = rst a b := by
  unfold flr rst
  by_cases hp : 0 < b
  · rw [if_pos hp, if_pos hp]
    have := (Int.ediv_emod_unique (a := a) (b := b) (r := r) (q := q) hp).2 ⟨by rw [Int.mul_comm]; omega, (h1 hp).1, (h1 hp).2⟩
    exact ⟨this.1.symm, this.2.symm⟩
  · rw [if_neg hp, if_neg hp]
    have hn := h2 (by omega)
    have e : (-b) * q = -(q * b) := by rw [Int.neg_mul, Int.mul_comm]
    have := (Int.ediv_emod_unique (a := -a) (b := -b) (r := -r) (q := q) (by omega)).2 ⟨by omega, by omega, by omega⟩
    exact ⟨this.1.symm, by omega⟩
/-- A quotient of ints is an int, but for the one. -/
theorem flr_range {a b : Int} (ha : -9223372036854775808 ≤ a ∧ a ≤ 9223372036854775807) (hb : b ≠ 0) (hn : ¬ (a = -9223372036854775808 ∧ b = -1)) : -9223372036854775808 ≤ flr a b ∧ flr a b ≤ 9223372036854775807 := by
  obtain ⟨h, h1, h2⟩ := flr_rst a b hb
  generalize flr a b = q at *
  generalize rst a b = r at *
  by_cases hp : 0 < b
  · have ⟨h3, h4⟩ := h1 hp
    constructor
    · refine Int.not_lt.1 fun hc => ?_
      have : (q + 1) * b ≤ (q + 1) * 1 := Int.mul_le_mul_of_nonpos_left (by omega) (by omega)
      rw [Int.add_mul] at this; omega
    · refine Int.not_lt.1 fun hc => ?_
      have : q * 1 ≤ q * b := Int.mul_le_mul_of_nonneg_left (by omega) (by omega)
      omega
  · have ⟨h3, h4⟩ := h2 (by omega)
    constructor
    · refine Int.not_lt.1 fun hc => ?_
      have : (q + 1) * (-1) ≤ (q + 1) * b := Int.mul_le_mul_of_nonpos_left (by omega) (by omega)
      rw [Int.add_mul q 1 b] at this
      omega
    · refine Int.not_lt.1 fun hc => ?_
      have : q * b ≤ q * (-1) := Int.mul_le_mul_of_nonneg_left (by omega) (by omega)
      by_cases hb1 : b = -1
      · subst hb1; omega
      · have : q * b ≤ q * (-2) := Int.mul_le_mul_of_nonneg_left (by omega) (by omega)
        omega
/-- Go's quotient and remainder, as the rounded ones. -/
theorem tdiv_flr (a b : Int) (hb : b ≠ 0) :
    (rst a b = 0 → Int.tdiv a b = flr a b ∧ Int.tmod a b = 0) ∧
    (rst a b ≠ 0 → ((Int.tmod a b < 0 ↔ b < 0) ∧ Int.tmod a b ≠ 0 ∧ Int.tdiv a b = flr a b ∧ Int.tmod a b = rst a b) ∨ (¬ (Int.tmod a b < 0 ↔ b < 0) ∧ Int.tmod a b ≠ 0 ∧ Int.tdiv a b = flr a b + 1 ∧ Int.tmod a b = rst a b - b)) := by
  have ht : a = Int.tdiv a b * b + Int.tmod a b := by have := Int.tmod_add_mul_tdiv a b; rw [Int.mul_comm] at this; omega
  have hs1 : 0 ≤ a → 0 ≤ Int.tmod a b := fun h => Int.tmod_nonneg b h
  have hs2 : a ≤ 0 → Int.tmod a b ≤ 0 := fun h => by
    have := Int.tmod_nonneg (a := -a) b (by omega)
    rw [Int.neg_tmod] at this; omega
  have hs3 : Int.natAbs (Int.tmod a b) < Int.natAbs b := by rw [Int.natAbs_tmod]; exact Nat.mod_lt _ (by omega)
  generalize Int.tdiv a b = q at *
  generalize Int.tmod a b = r at *
  by_cases hr : (r = 0 ∨ (r < 0 ↔ b < 0))
  · have hu := flr_unique (a := a) (b := b) (q := q) (r := r) hb ht (fun h => by omega) (fun h => by omega)
    obtain ⟨e1, e2⟩ := hu
    constructor
    · intro h0; exact ⟨e1, by omega⟩
    · intro h0; exact .inl ⟨by omega, by omega, e1, e2⟩
  · have hu := flr_unique (a := a) (b := b) (q := q - 1) (r := r + b) hb (by rw [Int.sub_mul]; omega) (fun h => by omega) (fun h => by omega)
    obtain ⟨e1, e2⟩ := hu
    constructor
    · intro h0; omega
    · intro h0; exact .inr ⟨by omega, by omega, by omega, by omega⟩
/-- What Floor, Ceil and Round tell. -/
def floorS (a b : Int) : Int × Int := if b = 0 then (0, 21) else if a = -9223372036854775808 ∧ b = -1 then (0, 15) else (flr a b, 0)
def ceilS (a b : Int) : Int × Int := if b = 0 then (0, 21) else if a = -9223372036854775808 ∧ b = -1 then (0, 15) else (if rst a b = 0 then flr a b else flr a b + 1, 0)
def up (a b : Int) : Prop := rst a b ≠ 0 ∧ (b.natAbs : Int) ≤ 2 * (rst a b).natAbs
instance (a b : Int) : Decidable (up a b) := inferInstanceAs (Decidable (_ ∧ _))
def roundS (a b : Int) : Int × Int := if b = 0 then (0, 21) else if a = -9223372036854775808 ∧ b = -1 then (0, 15) else (if up a b then flr a b + 1 else flr a b, 0)
section
variable {a b : Int} (ha : -9223372036854775808 ≤ a ∧ a ≤ 9223372036854775807) (hb : -9223372036854775808 ≤ b ∧ b ≤ 9223372036854775807)
include ha hb
/-- One more than the quotient is an int, where there is a remainder. -/
theorem flr_next (h0 : b ≠ 0) (hr : rst a b ≠ 0) : -9223372036854775808 ≤ flr a b ∧ flr a b + 1 ≤ 9223372036854775807 := by
  obtain ⟨h, h1, h2⟩ := flr_rst a b h0
  have hx : ¬ (a = -9223372036854775808 ∧ b = -1) := fun hx => by
    have := h2 (by omega); omega
  refine ⟨(flr_range ha h0 hx).1, ?_⟩
  generalize flr a b = q at *
  generalize rst a b = r at *
  refine Int.not_lt.1 fun hc => ?_
  by_cases hp : 0 < b
  · have : q * 1 ≤ q * b := Int.mul_le_mul_of_nonneg_left (by omega) (by omega)
    have := h1 hp; omega
  · have : q * b ≤ q * (-2) := Int.mul_le_mul_of_nonneg_left (by have := h2 (by omega); omega) (by omega)
    omega
end
end Go.Proofs.Ytachglfhgcdobaa.PAll
