/- bits.Div64 is exact. -/
import Derived.Test.YtgamkmgdbfeigaaT4
namespace Go.Proofs.YtgamkmgdbfeigaaM
open Go Go.RowKit
set_option linter.unusedSimpArgs false
theorem bitLenAux_lo : ∀ (f x : Nat), x ≠ 0 → 2 ^ (Lib.bitLenAux f x - 1) ≤ x
  | 0, x, h => by simp [Lib.bitLenAux]; omega
  | f + 1, x, h => by
    rw [Lib.bitLenAux, if_neg h]
    by_cases h2 : x / 2 = 0
    · have : Lib.bitLenAux f (x / 2) = 0 := by rw [h2]; cases f <;> simp [Lib.bitLenAux]
      rw [this]; simp; omega
    · have ih := bitLenAux_lo f (x / 2) h2
      have hp : 1 ≤ Lib.bitLenAux f (x / 2) ∨ Lib.bitLenAux f (x / 2) = 0 := by omega
      rcases hp with hp | hp
      · have e : 1 + Lib.bitLenAux f (x / 2) - 1 = (Lib.bitLenAux f (x / 2) - 1) + 1 := by omega
        rw [e, Nat.pow_succ]; omega
      · rw [hp]; simp; omega
theorem bitLenAux_hi : ∀ (f x : Nat), x < 2 ^ f → x < 2 ^ Lib.bitLenAux f x ∧ Lib.bitLenAux f x ≤ f
  | 0, x, h => by simp at h; simp [Lib.bitLenAux, h]
  | f + 1, x, h => by
    rw [Lib.bitLenAux]
    split
    · rename_i h0; subst h0; simp
    · have ih := bitLenAux_hi f (x / 2) (by rw [Nat.pow_succ] at h; omega)
      rw [Nat.add_comm, Nat.pow_succ]; exact ⟨by omega, by omega⟩
theorem bitLen_spec (x : Nat) (h0 : x ≠ 0) (h : x < 18446744073709551616) : 1 ≤ Lib.bitLen x ∧ Lib.bitLen x ≤ 64 ∧ 2 ^ (Lib.bitLen x - 1) ≤ x ∧ x < 2 ^ Lib.bitLen x := by
  have h1 := bitLenAux_lo 64 x h0
  have h2 := bitLenAux_hi 64 x (by simpa using h)
  refine ⟨?_, h2.2, h1, h2.1⟩
  rcases Nat.eq_zero_or_pos (Lib.bitLen x) with hz | hz
  · have := h2.1; unfold Lib.bitLen at hz; rw [hz] at this; simp at this; omega
  · exact hz
theorem dv_test {y yn1 yn0 u un1 q rhat : Int} (hy : y = yn1 * 4294967296 + yn0) (hq : q * yn1 + rhat = u) : q * yn0 > 4294967296 * rhat + un1 ↔ q * y > u * 4294967296 + un1 := by
  have : q * y = q * yn1 * 4294967296 + q * yn0 := by rw [hy, Int.mul_add, Int.mul_assoc]
  omega
theorem dv_top {y N q : Int} (hy0 : 0 < y) (h : q * y > N) : N / y ≤ q - 1 := by
  have : N / y < q := Int.ediv_lt_of_lt_mul hy0 (by rw [Int.mul_comm]; rw [Int.mul_comm] at h; exact h)
  omega
theorem dv_end {y N q : Int} (hy0 : 0 < y) (h : ¬ q * y > N) (hq : N / y ≤ q) : q = N / y := by
  have : q ≤ N / y := Int.le_ediv_of_mul_le hy0 (by omega)
  omega
section
variable {y yn1 yn0 : Int} (hy : y = yn1 * 4294967296 + yn0) (h0 : 0 ≤ yn0) (h1 : yn0 < 4294967296) (h2 : 2147483648 ≤ yn1) (h3 : yn1 < 4294967296)
include hy h0 h1 h2 h3
theorem dv_bound {u un q rhat : Int} (hu0 : 0 ≤ u) (hu : u < y) (hun0 : 0 ≤ un) (hun : un < 4294967296) (hq : q * yn1 + rhat = u) (hr0 : 0 ≤ rhat) (hq0 : 0 ≤ q) : q < 8589934592 := by
  by_cases h : q < 8589934592
  · exact h
  · exfalso
    have h := Int.not_lt.1 h
    have : 8589934592 * yn1 ≤ q * yn1 := Int.mul_le_mul_of_nonneg_right h (by omega)
    omega
end
theorem scaled_div {M y T : Int} (hT : 0 < T) (hy : 0 < y) : (M * T) / (y * T) = M / y ∧ ((M * T) % (y * T)) / T = M % y := by
  refine ⟨Int.mul_ediv_mul_of_pos_left M y hT, ?_⟩
  rw [Int.mul_comm M T, Int.mul_comm y T, Int.mul_emod_mul_of_pos _ _ hT]
  exact Int.mul_ediv_cancel_left _ (by omega)
theorem two_digits {a b c y : Int} (hy : 0 < y) (hc0 : 0 ≤ c) :
    (a * 4294967296 + b) / y * 4294967296 + (((a * 4294967296 + b) % y) * 4294967296 + c) / y = ((a * 4294967296 + b) * 4294967296 + c) / y ∧
    (((a * 4294967296 + b) % y) * 4294967296 + c) % y = ((a * 4294967296 + b) * 4294967296 + c) % y := by
  have h := Int.emod_add_mul_ediv (a * 4294967296 + b) y
  generalize (a * 4294967296 + b) = N at *
  have e : N * 4294967296 + c = (N % y * 4294967296 + c) + y * (N / y * 4294967296) := by
    rw [← Int.mul_assoc]
    generalize y * (N / y) = Z at *
    omega
  constructor
  · rw [e, Int.add_mul_ediv_left _ _ (by omega : y ≠ 0)]; omega
  · rw [e, Int.add_mul_emod_self_left]
theorem wu64 (x : Int) : IntKind.wrap .u64 x = x % 18446744073709551616 := by simp [IntKind.wrap, IntKind.bits, IntKind.signed]
theorem toNatBV (x : Int) (h : 0 ≤ x) (h1 : x < 18446744073709551616) : (BitVec.ofInt 64 x).toNat = x.toNat := by
  rw [BitVec.toNat_ofInt]; omega
theorem and_lo (x : Int) (h : 0 ≤ x) (h1 : x < 18446744073709551616) : IntKind.wrap .u64 ((BitVec.ofInt (IntKind.bits .u64) x &&& BitVec.ofInt (IntKind.bits .u64) 4294967295).toNat : Int) = x % 4294967296 := by
  show IntKind.wrap .u64 ((BitVec.ofInt 64 x &&& BitVec.ofInt 64 4294967295).toNat : Int) = _
  rw [BitVec.toNat_and, toNatBV x h h1, toNatBV _ (by decide) (by decide)]
  have : x.toNat &&& (4294967295 : Int).toNat = x.toNat % 2 ^ 32 := Nat.and_two_pow_sub_one_eq_mod x.toNat 32
  rw [this, wu64]; omega
theorem or_add (i : Nat) (a b : Nat) (h : b < 2 ^ i) (h1 : 2 ^ i * a + b < 18446744073709551616) : IntKind.wrap .u64 ((BitVec.ofInt (IntKind.bits .u64) ((2 ^ i * a : Nat) : Int) ||| BitVec.ofInt (IntKind.bits .u64) (b : Int)).toNat : Int) = ((2 ^ i * a + b : Nat) : Int) := by
  show IntKind.wrap .u64 ((BitVec.ofInt 64 ((2 ^ i * a : Nat) : Int) ||| BitVec.ofInt 64 (b : Int)).toNat : Int) = _
  rw [BitVec.toNat_or, toNatBV _ (by omega) (by omega), toNatBV _ (by omega) (by omega)]
  have := Nat.two_pow_add_eq_or_of_lt h a
  rw [Int.toNat_natCast, Int.toNat_natCast, ← this, wu64]; omega
end Go.Proofs.YtgamkmgdbfeigaaM
