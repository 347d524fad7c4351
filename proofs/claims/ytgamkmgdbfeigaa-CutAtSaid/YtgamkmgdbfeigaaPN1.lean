/- Quotients, rounded quotients, sizes under a sign, reduced fractions: in plain numbers. -/
import Derived.Test.YtgamkmgdbfeigaaT1
namespace Go.Proofs.YtgamkmgdbfeigaaM
open Go Go.RowKit
set_option linter.unusedSimpArgs false
/-- The quotient, rounded down, and the remainder with the divisor's sign. -/
def flr (a b : Int) : Int := if 0 < b then a / b else (-a) / (-b)
def rst (a b : Int) : Int := if 0 < b then a % b else -((-a) % (-b))
theorem flr_rst (a b : Int) (hb : b ≠ 0) : a = flr a b * b + rst a b ∧ (0 < b → 0 ≤ rst a b ∧ rst a b < b) ∧ (b < 0 → b < rst a b ∧ rst a b ≤ 0) := by
  unfold flr rst
  by_cases h : 0 < b
  · rw [if_pos h, if_pos h]
    have h1 := Int.emod_add_mul_ediv a b
    rw [Int.mul_comm] at h1
    exact ⟨by omega, fun _ => ⟨Int.emod_nonneg a hb, Int.emod_lt_of_pos a h⟩, fun h' => by omega⟩
  · rw [if_neg h, if_neg h]
    have h1 := Int.emod_add_mul_ediv (-a) (-b)
    have h2 : (-b) * ((-a) / (-b)) = -(((-a) / (-b)) * b) := by rw [Int.neg_mul, Int.mul_comm]
    have h3 := Int.emod_nonneg (-a) (show -b ≠ 0 by omega)
    have h4 := Int.emod_lt_of_pos (-a) (show 0 < -b by omega)
    exact ⟨by omega, fun h' => by omega, fun _ => ⟨by omega, by omega⟩⟩
theorem flr_unique {a b q r : Int} (hb : b ≠ 0) (h : a = q * b + r) (h1 : 0 < b → 0 ≤ r ∧ r < b) (h2 : b < 0 → b < r ∧ r ≤ 0) : q = flr a b ∧ r = rst a b := by
  unfold flr rst
  by_cases hp : 0 < b
  · rw [if_pos hp, if_pos hp]
    have := (Int.ediv_emod_unique (a := a) (b := b) (r := r) (q := q) hp).2 ⟨by rw [Int.mul_comm]; omega, (h1 hp).1, (h1 hp).2⟩
    exact ⟨this.1.symm, this.2.symm⟩
  · rw [if_neg hp, if_neg hp]
    have hn := h2 (by omega)
    have e : (-b) * q = -(q * b) := by rw [Int.neg_mul, Int.mul_comm]
    have := (Int.ediv_emod_unique (a := -a) (b := -b) (r := -r) (q := q) (by omega)).2 ⟨by omega, by omega, by omega⟩
    exact ⟨this.1.symm, by omega⟩
/-- A quotient of ints is an int, but for the one. -/
theorem flr_range {a b : Int} (ha : -9223372036854775808 ≤ a ∧ a ≤ 9223372036854775807) (hb : b ≠ 0) (hn : ¬ (a = -9223372036854775808 ∧ b = -1)) : -9223372036854775808 ≤ flr a b ∧ flr a b ≤ 9223372036854775807 := by
  obtain ⟨h, h1, h2⟩ := flr_rst a b hb
  generalize flr a b = q at *
  generalize rst a b = r at *
  by_cases hp : 0 < b
  · have ⟨h3, h4⟩ := h1 hp
    constructor
    · refine Int.not_lt.1 fun hc => ?_
      have : (q + 1) * b ≤ (q + 1) * 1 := Int.mul_le_mul_of_nonpos_left (by omega) (by omega)
      rw [Int.add_mul] at this; omega
    · refine Int.not_lt.1 fun hc => ?_
      have : q * 1 ≤ q * b := Int.mul_le_mul_of_nonneg_left (by omega) (by omega)
      omega
  · have ⟨h3, h4⟩ := h2 (by omega)
    constructor
    · refine Int.not_lt.1 fun hc => ?_
      have : (q + 1) * (-1) ≤ (q + 1) * b := Int.mul_le_mul_of_nonpos_left (by omega) (by omega)
      rw [Int.add_mul q 1 b] at this
      omega
    · refine Int.not_lt.1 fun hc => ?_
      have : q * b ≤ q * (-1) := Int.mul_le_mul_of_nonneg_left (by omega) (by omega)
      by_cases hb1 : b = -1
      · subst hb1; omega
      · have : q * b ≤ q * (-2) := Int.mul_le_mul_of_nonneg_left (by omega) (by omega)
        omega
/-- Go's quotient and remainder, as the rounded ones. -/
theorem tdiv_flr (a b : Int) (hb : b ≠ 0) :
    (rst a b = 0 → Int.tdiv a b = flr a b ∧ Int.tmod a b = 0) ∧
    (rst a b ≠ 0 → ((Int.tmod a b < 0 ↔ b < 0) ∧ Int.tmod a b ≠ 0 ∧ Int.tdiv a b = flr a b ∧ Int.tmod a b = rst a b) ∨ (¬ (Int.tmod a b < 0 ↔ b < 0) ∧ Int.tmod a b ≠ 0 ∧ Int.tdiv a b = flr a b + 1 ∧ Int.tmod a b = rst a b - b)) := by
  have ht : a = Int.tdiv a b * b + Int.tmod a b := by have := Int.tmod_add_mul_tdiv a b; rw [Int.mul_comm] at this; omega
  have hs1 : 0 ≤ a → 0 ≤ Int.tmod a b := fun h => Int.tmod_nonneg b h
  have hs2 : a ≤ 0 → Int.tmod a b ≤ 0 := fun h => by
    have := Int.tmod_nonneg (a := -a) b (by omega)
    rw [Int.neg_tmod] at this; omega
  have hs3 : Int.natAbs (Int.tmod a b) < Int.natAbs b := by rw [Int.natAbs_tmod]; exact Nat.mod_lt _ (by omega)
  generalize Int.tdiv a b = q at *
  generalize Int.tmod a b = r at *
  by_cases hr : (r = 0 ∨ (r < 0 ↔ b < 0))
  · have hu := flr_unique (a := a) (b := b) (q := q) (r := r) hb ht (fun h => by omega) (fun h => by omega)
    obtain ⟨e1, e2⟩ := hu
    constructor
    · intro h0; exact ⟨e1, by omega⟩
    · intro h0; exact .inl ⟨by omega, by omega, e1, e2⟩
  · have hu := flr_unique (a := a) (b := b) (q := q - 1) (r := r + b) hb (by rw [Int.sub_mul]; omega) (fun h => by omega) (fun h => by omega)
    obtain ⟨e1, e2⟩ := hu
    constructor
    · intro h0; omega
    · intro h0; exact .inr ⟨by omega, by omega, by omega, by omega⟩
/-- What Floor, Ceil and Round tell. -/
def floorS (a b : Int) : Int × Int := if b = 0 then (0, 21) else if a = -9223372036854775808 ∧ b = -1 then (0, 15) else (flr a b, 0)
def ceilS (a b : Int) : Int × Int := if b = 0 then (0, 21) else if a = -9223372036854775808 ∧ b = -1 then (0, 15) else (if rst a b = 0 then flr a b else flr a b + 1, 0)
def up (a b : Int) : Prop := rst a b ≠ 0 ∧ (b.natAbs : Int) ≤ 2 * (rst a b).natAbs
instance (a b : Int) : Decidable (up a b) := inferInstanceAs (Decidable (_ ∧ _))
def roundS (a b : Int) : Int × Int := if b = 0 then (0, 21) else if a = -9223372036854775808 ∧ b = -1 then (0, 15) else (if up a b then flr a b + 1 else flr a b, 0)
section
variable {a b : Int} (ha : -9223372036854775808 ≤ a ∧ a ≤ 9223372036854775807) (hb : -9223372036854775808 ≤ b ∧ b ≤ 9223372036854775807)
include ha hb
/-- One more than the quotient is an int, where there is a remainder. -/
theorem flr_next (h0 : b ≠ 0) (hr : rst a b ≠ 0) : -9223372036854775808 ≤ flr a b ∧ flr a b + 1 ≤ 9223372036854775807 := by
  obtain ⟨h, h1, h2⟩ := flr_rst a b h0
  have hx : ¬ (a = -9223372036854775808 ∧ b = -1) := fun hx => by
    have := h2 (by omega); omega
  refine ⟨(flr_range ha h0 hx).1, ?_⟩
  generalize flr a b = q at *
  generalize rst a b = r at *
  refine Int.not_lt.1 fun hc => ?_
  by_cases hp : 0 < b
  · have : q * 1 ≤ q * b := Int.mul_le_mul_of_nonneg_left (by omega) (by omega)
    have := h1 hp; omega
  · have : q * b ≤ q * (-2) := Int.mul_le_mul_of_nonneg_left (by have := h2 (by omega); omega) (by omega)
    omega
end
def minusOf (a b : Int) : Bool := decide ((a < 0 ∧ 0 < b) ∨ (0 < a ∧ b < 0))
theorem flr_abs (a b : Int) (hb : b ≠ 0) :
    (minusOf a b = false → flr a b = (a.natAbs / b.natAbs : Nat) ∧ (rst a b).natAbs = a.natAbs % b.natAbs) ∧
    (minusOf a b = true → a.natAbs % b.natAbs = 0 → flr a b = -(a.natAbs / b.natAbs : Nat) ∧ rst a b = 0) ∧
    (minusOf a b = true → a.natAbs % b.natAbs ≠ 0 → flr a b = -(a.natAbs / b.natAbs : Nat) - 1 ∧ (rst a b).natAbs = b.natAbs - a.natAbs % b.natAbs) := by
  have hd := Nat.mod_add_div a.natAbs b.natAbs
  have hm := Nat.mod_lt a.natAbs (show 0 < b.natAbs by omega)
  generalize hQ : a.natAbs / b.natAbs = Q at *
  generalize hR : a.natAbs % b.natAbs = R at *
  have hbq : ((b.natAbs * Q : Nat) : Int) = (Q : Int) * (b.natAbs : Int) := by rw [Int.natCast_mul, Int.mul_comm]
  have hd' : (R : Int) + (Q : Int) * (b.natAbs : Int) = (a.natAbs : Int) := by rw [← hbq]; omega
  have hp : 0 < b → (Q : Int) * (b.natAbs : Int) = Q * b := fun h => by rw [show (b.natAbs : Int) = b by omega]
  have hn : b < 0 → (Q : Int) * (b.natAbs : Int) = -(Q * b) := fun h => by rw [show (b.natAbs : Int) = -b by omega, Int.mul_neg]
  have hnq : (-(Q : Int)) * b = -((Q : Int) * b) := Int.neg_mul _ _
  have hnq1 : (-(Q : Int) - 1) * b = -((Q : Int) * b) - b := by rw [Int.sub_mul, Int.neg_mul]; omega
  unfold minusOf
  refine ⟨fun h => ?_, fun h h0 => ?_, fun h h0 => ?_⟩
  · simp only [decide_eq_false_iff_not] at h
    by_cases hb0 : 0 < b
    · have := hp hb0
      obtain ⟨e1, e2⟩ := flr_unique (a := a) (b := b) (q := Q) (r := R) hb (by omega) (by omega) (by omega)
      exact ⟨e1.symm, by omega⟩
    · have := hn (by omega)
      obtain ⟨e1, e2⟩ := flr_unique (a := a) (b := b) (q := Q) (r := -R) hb (by omega) (by omega) (by omega)
      exact ⟨e1.symm, by omega⟩
  · simp only [decide_eq_true_eq] at h
    rcases h with ⟨h1, h2⟩ | ⟨h1, h2⟩
    · have := hp h2
      obtain ⟨e1, e2⟩ := flr_unique (a := a) (b := b) (q := -Q) (r := 0) hb (by omega) (by omega) (by omega)
      exact ⟨e1.symm, e2.symm⟩
    · have := hn h2
      obtain ⟨e1, e2⟩ := flr_unique (a := a) (b := b) (q := -Q) (r := 0) hb (by omega) (by omega) (by omega)
      exact ⟨e1.symm, e2.symm⟩
  · simp only [decide_eq_true_eq] at h
    rcases h with ⟨h1, h2⟩ | ⟨h1, h2⟩
    · have := hp h2
      obtain ⟨e1, e2⟩ := flr_unique (a := a) (b := b) (q := -Q - 1) (r := b - R) hb (by omega) (by omega) (by omega)
      exact ⟨e1.symm, by omega⟩
    · have := hn h2
      obtain ⟨e1, e2⟩ := flr_unique (a := a) (b := b) (q := -Q - 1) (r := b + R) hb (by omega) (by omega) (by omega)
      exact ⟨e1.symm, by omega⟩
def signedS (m : Bool) (n : Int) : Int × Int := if n > 9223372036854775808 ∨ (n = 9223372036854775808 ∧ m = false) then (0, 15) else if m = true then (-n, 0) else (n, 0)
theorem signedS_true {n : Int} (h : n ≤ 9223372036854775808) : signedS true n = (-n, 0) := by
  unfold signedS; rw [if_neg (by rintro (h | h); omega; exact absurd h.2 (by decide)), if_pos rfl]
theorem signedS_false {n : Int} (h : n < 9223372036854775808) : signedS false n = (n, 0) := by
  unfold signedS; rw [if_neg (by rintro (h | h); omega; have := h.1; omega), if_neg (by decide)]
theorem signedS_over {n : Int} {m : Bool} (h : n > 9223372036854775808 ∨ (n = 9223372036854775808 ∧ m = false)) : signedS m n = (0, 15) := by
  unfold signedS; rw [if_pos h]
section
variable {a b : Int} (ha : -9223372036854775808 ≤ a ∧ a ≤ 9223372036854775807) (hb : -9223372036854775808 ≤ b ∧ b ≤ 9223372036854775807)
include ha hb
theorem abs_div_lt (h0 : b ≠ 0) : (a.natAbs / b.natAbs ≤ 9223372036854775808) ∧ (a.natAbs % b.natAbs ≠ 0 → a.natAbs / b.natAbs < 4611686018427387905) ∧ (minusOf a b = false → a.natAbs / b.natAbs = 9223372036854775808 → a = -9223372036854775808 ∧ b = -1) ∧ (a = -9223372036854775808 ∧ b = -1 → a.natAbs / b.natAbs = 9223372036854775808 ∧ minusOf a b = false) := by
  have hd := Nat.mod_add_div a.natAbs b.natAbs
  have hm := Nat.mod_lt a.natAbs (show 0 < b.natAbs by omega)
  have h1 : a.natAbs / b.natAbs ≤ a.natAbs := Nat.div_le_self _ _
  refine ⟨by omega, fun hr => ?_, fun hmn hq => ?_, ?_⟩
  · have : 2 * (a.natAbs / b.natAbs) ≤ b.natAbs * (a.natAbs / b.natAbs) := Nat.mul_le_mul_right _ (by omega)
    omega
  · have hA : a = -9223372036854775808 := by omega
    rw [hq] at hd
    have : b.natAbs = 1 := by omega
    refine ⟨hA, ?_⟩
    unfold minusOf at hmn
    simp only [decide_eq_false_iff_not] at hmn
    omega
  · rintro ⟨rfl, rfl⟩; decide
end
/-- A size under a sign is an int. -/
def fitN (s : Bool) (n : Nat) : Prop := if s = true then n ≤ 9223372036854775808 else n ≤ 9223372036854775807
instance (s : Bool) (n : Nat) : Decidable (fitN s n) := by unfold fitN; infer_instance
def sgnN (s : Bool) (n : Nat) : Int := if s = true then -(n : Int) else (n : Int)
def makeS (a b : Int) : Int × Int × Int :=
  if b = 0 then (0, 0, 21)
  else if fitN ((decide (a < 0)) != (decide (b < 0))) (a.natAbs / Nat.gcd a.natAbs b.natAbs) ∧ b.natAbs / Nat.gcd a.natAbs b.natAbs ≤ 9223372036854775807 then
    (sgnN ((decide (a < 0)) != (decide (b < 0))) (a.natAbs / Nat.gcd a.natAbs b.natAbs), ((b.natAbs / Nat.gcd a.natAbs b.natAbs : Nat) : Int), 0)
  else (0, 0, 15)
theorem fitN_true {n : Nat} : fitN true n ↔ n ≤ 9223372036854775808 := by unfold fitN; rw [if_pos rfl]
theorem fitN_false {n : Nat} : fitN false n ↔ n ≤ 9223372036854775807 := by unfold fitN; rw [if_neg (by decide)]
theorem sgnN_true {n : Nat} : sgnN true n = -(n : Int) := by unfold sgnN; rw [if_pos rfl]
theorem sgnN_false {n : Nat} : sgnN false n = (n : Int) := by unfold sgnN; rw [if_neg (by decide)]
theorem signedS_fit (s : Bool) (n : Nat) : signedS s (n : Int) = if fitN s n then (sgnN s n, 0) else (0, 15) := by
  cases s with
  | true =>
    by_cases hn : n ≤ 9223372036854775808
    · rw [if_pos (fitN_true.2 hn), signedS_true (by omega), sgnN_true]
    · rw [if_neg (fun h => hn (fitN_true.1 h)), signedS_over (.inl (by omega))]
  | false =>
    by_cases hn : n ≤ 9223372036854775807
    · rw [if_pos (fitN_false.2 hn), signedS_false (by omega), sgnN_false]
    · rw [if_neg (fun h => hn (fitN_false.1 h)), signedS_over (by by_cases he : (n : Int) = 9223372036854775808; exact .inr ⟨he, rfl⟩; exact .inl (by omega))]
theorem gcd_pos_of {a b : Int} (hb : b ≠ 0) : 0 < Nat.gcd a.natAbs b.natAbs := Nat.gcd_pos_of_pos_right _ (by omega)
def validS (a b : Int) : Bool := decide (0 < b ∧ Nat.gcd a.natAbs b.natAbs = 1)
theorem makeS_ok {a b : Int} (h : (makeS a b).2.2 = 0) : b ≠ 0 ∧ makeS a b = (sgnN ((decide (a < 0)) != (decide (b < 0))) (a.natAbs / Nat.gcd a.natAbs b.natAbs), ((b.natAbs / Nat.gcd a.natAbs b.natAbs : Nat) : Int), 0) := by
  unfold makeS at h ⊢
  by_cases h0 : b = 0
  · rw [if_pos h0] at h; exact absurd h (by decide)
  · rw [if_neg h0] at h ⊢
    split at h
    · rename_i hf; rw [if_pos hf]; exact ⟨h0, rfl⟩
    · exact absurd h (by decide)
theorem sgnN_abs (s : Bool) (n : Nat) : (sgnN s n).natAbs = n := by
  cases s
  · rw [sgnN_false]; omega
  · rw [sgnN_true]; omega
theorem makeS_valid {a b : Int} (h : (makeS a b).2.2 = 0) : validS (makeS a b).1 (makeS a b).2.1 = true := by
  obtain ⟨h0, e⟩ := makeS_ok h
  rw [e]
  have hg := gcd_pos_of (a := a) h0
  unfold validS
  refine decide_eq_true ⟨?_, ?_⟩
  · have : 0 < b.natAbs / Nat.gcd a.natAbs b.natAbs := Nat.div_pos (Nat.le_of_dvd (by omega) (Nat.gcd_dvd_right _ _)) hg
    show 0 < ((b.natAbs / Nat.gcd a.natAbs b.natAbs : Nat) : Int)
    generalize b.natAbs / Nat.gcd a.natAbs b.natAbs = D at *; omega
  · show Nat.gcd (sgnN _ _).natAbs _ = 1
    rw [sgnN_abs, Int.natAbs_natCast]
    exact Nat.coprime_div_gcd_div_gcd hg
def sgn (x y : Int) : Int := if x < y then -1 else if x > y then 1 else 0
theorem sgn_congr {x y x' y' : Int} (h1 : x < y ↔ x' < y') (h2 : x > y ↔ x' > y') : sgn x y = sgn x' y' := by
  unfold sgn
  by_cases a : x < y
  · rw [if_pos a, if_pos (h1.1 a)]
  · rw [if_neg a, if_neg (fun h => a (h1.2 h))]
    by_cases b : x > y
    · rw [if_pos b, if_pos (h2.1 b)]
    · rw [if_neg b, if_neg (fun h => b (h2.2 h))]
theorem sgn_range (x y : Int) : sgn x y = -1 ∧ x < y ∨ sgn x y = 1 ∧ y < x ∨ sgn x y = 0 ∧ x = y := by
  unfold sgn
  by_cases a : x < y
  · rw [if_pos a]; exact .inl ⟨rfl, a⟩
  · rw [if_neg a]
    by_cases b : x > y
    · rw [if_pos b]; exact .inr (.inl ⟨rfl, b⟩)
    · rw [if_neg b]; exact .inr (.inr ⟨rfl, by omega⟩)
def cmpS (n1 d1 n2 d2 : Int) : Int := if validS n1 d1 = true ∧ validS n2 d2 = true then sgn (n1 * d2) (n2 * d1) else 0
theorem flr_pos {a b : Int} (hb : 0 < b) : a = flr a b * b + rst a b ∧ 0 ≤ rst a b ∧ rst a b < b := by
  obtain ⟨h, h1, _⟩ := flr_rst a b (by omega)
  exact ⟨h, h1 hb⟩
theorem floorS_pos {a b : Int} (hb : 0 < b) : floorS a b = (flr a b, 0) := by
  unfold floorS; rw [if_neg (by omega), if_neg (by omega)]
theorem cross_lt {n1 d1 n2 d2 q1 q2 r1 r2 : Int} (p1 : 0 < d1) (p2 : 0 < d2) (e1 : n1 = q1 * d1 + r1) (h1 : r1 < d1) (e2 : n2 = q2 * d2 + r2) (h2 : 0 ≤ r2) (hq : q1 < q2) : n1 * d2 < n2 * d1 := by
  have a1 : n1 < q2 * d1 := by
    have : (q1 + 1) * d1 ≤ q2 * d1 := Int.mul_le_mul_of_nonneg_right (by omega) (by omega)
    rw [Int.add_mul] at this; omega
  have a2 : n1 * d2 < q2 * d1 * d2 := Int.mul_lt_mul_of_pos_right a1 p2
  have a3 : q2 * d2 * d1 ≤ n2 * d1 := Int.mul_le_mul_of_nonneg_right (by omega) (by omega)
  have a4 : q2 * d1 * d2 = q2 * d2 * d1 := by rw [Int.mul_assoc, Int.mul_comm d1 d2, ← Int.mul_assoc]
  omega
def negOf (a b c : Int) : Bool := (decide (a < 0) != decide (b < 0)) != decide (c < 0)
def mulDivN (n : Bool) (Q R : Int) : Int × Int :=
  if n = true then (if Q + (if R = 0 then 0 else 1) ≤ 9223372036854775808 then (-(Q + (if R = 0 then 0 else 1)), 0) else (0, 15))
  else if Q ≤ 9223372036854775807 then (Q, 0) else (0, 15)
def mulDivS (a b c : Int) : Int × Int := if c = 0 then (0, 21) else mulDivN (negOf a b c) ((a.natAbs * b.natAbs / c.natAbs : Nat) : Int) ((a.natAbs * b.natAbs % c.natAbs : Nat) : Int)
end Go.Proofs.YtgamkmgdbfeigaaM
