/- Plain lemmas on the printed functions: numbers and lists alone, no program and no memory. -/
import Derived.Test.YtngiipodkbfokaaLibNum
import Derived.Test.YtngiipodkbfokaaPAllx8
namespace Go.Proofs.Ytngiipodkbfokaa.PAll
open Go.RowKit Go.Proofs.YtngiipodkbfokaaW.PrintWords Go.Proofs.YtngiipodkbfokaaW.PrintLast
set_option linter.unusedVariables false
/-! ### Sqrt -/
theorem i64w {n : Int} (h0 : 0 ≤ n) (h1 : n < 9223372036854775808) : IntKind.i64.wrap n = n := by
  simp [IntKind.wrap, IntKind.bits, IntKind.signed]; omega
theorem sqrt_low (x : Int) (hx : ¬ x > 0) : ∀ (e k : Nat), e ≤ 32 → e + 1 ≤ k → num_Sqrt.l0 k x 0 (32 - (e : Int)) = some 0
  | 0, k, he, hk => by
    obtain ⟨k, rfl⟩ : ∃ j, k = j + 1 := ⟨k - 1, by omega⟩
    simp only [num_Sqrt.l0]; rw [if_neg (by omega)]
  | e + 1, k, he, hk => by
    obtain ⟨k, rfl⟩ : ∃ j, k = j + 1 := ⟨k - 1, by omega⟩
    simp only [num_Sqrt.l0]
    rw [if_pos (by omega), if_pos (by unfold wrap64; omega), if_neg hx, show wrap64 (32 - ((e + 1 : Nat) : Int) + 1) = 32 - (e : Int) by unfold wrap64; omega]
    exact sqrt_low x hx e k (by omega) (by omega)
theorem sqrt_loop (n : Nat) (h0 : 0 < n) (hn : n < 9223372036854775808) : ∀ (e m k : Nat), e ≤ 32 → (m * 2 ^ e) * (m * 2 ^ e) ≤ n → n < ((m + 1) * 2 ^ e) * ((m + 1) * 2 ^ e) → e + 1 ≤ k →
    ∃ s : Nat, num_Sqrt.l0 k (n : Int) ((m * 2 ^ e : Nat) : Int) (32 - (e : Int)) = some (s : Int) ∧ s * s ≤ n ∧ n < (s + 1) * (s + 1)
  | 0, m, k, he, h1, h2, hk => by
    obtain ⟨k, rfl⟩ : ∃ j, k = j + 1 := ⟨k - 1, by omega⟩
    rw [Nat.pow_zero, Nat.mul_one] at *
    refine ⟨m, ?_, h1, h2⟩
    simp only [num_Sqrt.l0]; rw [if_neg (by omega)]
  | e + 1, m, k, he, h1, h2, hk => by
    obtain ⟨k, rfl⟩ : ∃ j, k = j + 1 := ⟨k - 1, by omega⟩
    obtain ⟨P, hP⟩ : ∃ P, P = 2 ^ e := ⟨_, rfl⟩
    have hP1 : 0 < P := by rw [hP]; exact Nat.two_pow_pos e
    have hP2 : P ≤ 2147483648 := by
      rw [hP]; exact Nat.pow_le_pow_right (n := 2) (by decide) (show e ≤ 31 by omega)
    have hPs : 2 ^ (e + 1) = P * 2 := by rw [Nat.pow_succ, hP]
    have hr : m * 2 ^ (e + 1) < 4294967296 := by
      refine Nat.not_le.1 fun hc => ?_
      have := Nat.mul_le_mul hc hc; omega
    have e1 : (2 * m + 1) * P = m * 2 ^ (e + 1) + P := by rw [hPs, Nat.add_mul, Nat.one_mul, Nat.mul_comm 2 m, Nat.mul_assoc, Nat.mul_comm 2 P]
    have e2 : (2 * m + 1 + 1) * P = (m + 1) * 2 ^ (e + 1) := by
      rw [hPs, show 2 * m + 1 + 1 = (m + 1) * 2 by omega, Nat.mul_assoc, Nat.mul_comm 2 P]
    have e3 : (2 * m) * P = m * 2 ^ (e + 1) := by rw [hPs, Nat.mul_comm 2 m, Nat.mul_assoc, Nat.mul_comm 2 P]
    have w31 : wrap64 (31 - (32 - ((e + 1 : Nat) : Int))) = (e : Int) := by unfold wrap64; omega
    have wn : wrap64 (32 - ((e + 1 : Nat) : Int) + 1) = 32 - (e : Int) := by unfold wrap64; omega
    have hs : shl .i64 1 (e : Int) = (P : Int) := by
      unfold shl
      rw [Nat.min_eq_left (by show (e : Int).toNat ≤ 64; omega), Int.toNat_natCast, Int.one_mul, i64w (by exact Int.pow_nonneg (by decide)), hP, Int.natCast_pow]; rfl
      have : ((2 : Int) ^ e) = (P : Int) := by rw [hP, Int.natCast_pow]; rfl
      rw [this]; omega
    have hor : Go.bits .or .i64 ((m * 2 ^ (e + 1) : Nat) : Int) (P : Int) = (((2 * m + 1) * P : Nat) : Int) := by
      rw [e1, Int.natCast_add]
      have hz : ((m * 2 ^ (e + 1) : Nat) : Int) % 2 ^ (e + 1) = 0 := by
        rw [Int.natCast_mul, Int.natCast_pow]; exact Int.mul_emod_left _ _
      have hpp : (2 : Int) ^ (e + 1) = ((P * 2 : Nat) : Int) := by rw [← hPs, Int.natCast_pow]; rfl
      have p63 : ((2 : Int) ^ 63) = 9223372036854775808 := by decide
      exact bits_join .i64 63 (by decide) (fun n h0 h1 => i64w h0 (by rw [← p63]; exact h1)) (e + 1) _ _ (by omega) hz (by rw [p63]; omega) (by omega) (by rw [hpp]; omega) (by rw [p63]; omega)
    simp only [num_Sqrt.l0]
    rw [if_pos (by omega), w31, wn, if_pos (by omega), if_pos (by omega), hs, hor]
    obtain ⟨M, hM⟩ : ∃ M, M = (2 * m + 1) * P := ⟨_, rfl⟩
    rw [← hM]
    have hM0 : 0 < M := by omega
    rw [if_neg (by omega), ← Int.ofNat_tdiv]
    have hdle : n / M ≤ n := Nat.div_le_self _ _
    rw [show wrap64 ((n / M : Nat) : Int) = ((n / M : Nat) : Int) by rw [w64]; generalize n / M = D at *; omega]
    by_cases hq : M ≤ n / M
    · rw [if_pos (by generalize n / M = D at *; omega)]
      rw [Nat.le_div_iff_mul_le hM0] at hq
      have := sqrt_loop n h0 hn e (2 * m + 1) k (by omega) (by rw [← hP, ← hM]; exact hq) (by rw [← hP, e2]; exact h2) (by omega)
      rw [← hP, ← hM] at this; exact this
    · rw [if_neg (by generalize n / M = D at *; omega)]
      rw [Nat.le_div_iff_mul_le hM0] at hq
      have := sqrt_loop n h0 hn e (2 * m) k (by omega) (by rw [← hP, e3]; exact h1) (by rw [← hP, ← hM]; omega) (by omega)
      rw [← hP, e3] at this; exact this
end Go.Proofs.Ytngiipodkbfokaa.PAll
