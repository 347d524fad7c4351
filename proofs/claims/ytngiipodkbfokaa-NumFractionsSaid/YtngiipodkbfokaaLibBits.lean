/- Plain lemmas on the printed functions: numbers and lists alone, no program and no memory. -/
import Derived.Test.YtngiipodkbfokaaLibBase
import Derived.Test.YtngiipodkbfokaaPAllx5
namespace Go.Proofs.Ytngiipodkbfokaa.PAll
open Go.RowKit Go.Proofs.YtngiipodkbfokaaW.PrintWords Go.Proofs.YtngiipodkbfokaaW.PrintLast
set_option linter.unusedVariables false
theorem bitLenAux_lo : ∀ (f x : Nat), x ≠ 0 → 2 ^ (Lib.bitLenAux f x - 1) ≤ x
  | 0, x, h => by simp [Lib.bitLenAux]; omega
  | f + 1, x, h => by
    rw [Lib.bitLenAux, if_neg h]
    by_cases h2 : x / 2 = 0
    · have : Lib.bitLenAux f (x / 2) = 0 := by rw [h2]; cases f <;> simp [Lib.bitLenAux]
      rw [this]; simp; omega
    · have ih := bitLenAux_lo f (x / 2) h2
      have hp : 1 ≤ Lib.bitLenAux f (x / 2) ∨ Lib.bitLenAux f (x / 2) = 0 := by omega
      rcases hp with hp | hp
      · have e : 1 + Lib.bitLenAux f (x / 2) - 1 = (Lib.bitLenAux f (x / 2) - 1) + 1 := by omega
        rw [e, Nat.pow_succ]; omega
      · rw [hp]; simp; omega
theorem bitLenAux_hi : ∀ (f x : Nat), x < 2 ^ f → x < 2 ^ Lib.bitLenAux f x ∧ Lib.bitLenAux f x ≤ f
  | 0, x, h => by simp at h; simp [Lib.bitLenAux, h]
  | f + 1, x, h => by
    rw [Lib.bitLenAux]
    split
    · rename_i h0; subst h0; simp
    · have ih := bitLenAux_hi f (x / 2) (by rw [Nat.pow_succ] at h; omega)
      rw [Nat.add_comm, Nat.pow_succ]; exact ⟨by omega, by omega⟩
theorem bitLen_spec (x : Nat) (h0 : x ≠ 0) (h : x < 18446744073709551616) : 1 ≤ Lib.bitLen x ∧ Lib.bitLen x ≤ 64 ∧ 2 ^ (Lib.bitLen x - 1) ≤ x ∧ x < 2 ^ Lib.bitLen x := by
  have h1 := bitLenAux_lo 64 x h0
  have h2 := bitLenAux_hi 64 x (by simpa using h)
  refine ⟨?_, h2.2, h1, h2.1⟩
  rcases Nat.eq_zero_or_pos (Lib.bitLen x) with hz | hz
  · have := h2.1; unfold Lib.bitLen at hz; rw [hz] at this; simp at this; omega
  · exact hz

/-- The digit's test, as a comparison of products. -/
theorem dv_test {y yn1 yn0 u un1 q rhat : Int} (hy : y = yn1 * 4294967296 + yn0) (hq : q * yn1 + rhat = u) : q * yn0 > 4294967296 * rhat + un1 ↔ q * y > u * 4294967296 + un1 := by
  have : q * y = q * yn1 * 4294967296 + q * yn0 := by rw [hy, Int.mul_add, Int.mul_assoc]
  omega
/-- A digit: at least the quotient; down by one as long as the test says so. -/
theorem dv_top {y N q : Int} (hy0 : 0 < y) (h : q * y > N) : N / y ≤ q - 1 := by
  have : N / y < q := Int.ediv_lt_of_lt_mul hy0 (by rw [Int.mul_comm]; rw [Int.mul_comm] at h; exact h)
  omega
theorem dv_end {y N q : Int} (hy0 : 0 < y) (h : ¬ q * y > N) (hq : N / y ≤ q) : q = N / y := by
  have : q ≤ N / y := Int.le_ediv_of_mul_le hy0 (by omega)
  omega

section
variable {y s yn1 yn0 : Int} (hy : y = yn1 * 4294967296 + yn0) (h0 : 0 ≤ yn0) (h1 : yn0 < 4294967296) (h2 : 2147483648 ≤ yn1) (h3 : yn1 < 4294967296)
include hy h0 h1 h2 h3
theorem dv_bound {u un q rhat : Int} (hu0 : 0 ≤ u) (hu : u < y) (hun0 : 0 ≤ un) (hun : un < 4294967296) (hq : q * yn1 + rhat = u) (hr0 : 0 ≤ rhat) (hq0 : 0 ≤ q) : q < 8589934592 := by
  by_cases h : q < 8589934592
  · exact h
  · exfalso
    have h := Int.not_lt.1 h
    have : 8589934592 * yn1 ≤ q * yn1 := Int.mul_le_mul_of_nonneg_right h (by omega)
    omega
/-- The second digit's loop. -/
theorem dv_l1 {un21 un0 q1 : Int} (hs0 : 0 ≤ s) (hs : s ≤ 64) (hu0 : 0 ≤ un21) (hu : un21 < y) (hn0 : 0 ≤ un0) (hn : un0 < 4294967296) (hq1 : 0 ≤ q1) (hq1' : q1 < 4294967296) :
    ∀ (m : Nat) (q rhat : Int), q * yn1 + rhat = un21 → 0 ≤ rhat → rhat < 4294967296 → 0 ≤ q → (un21 * 4294967296 + un0) / y ≤ q → 4294967296 ≤ rhat + m * 2147483648 → ∀ k, 2 * m + 2 ≤ k →
      bits_Div64.l1 k y s yn1 yn0 un0 q1 rhat un21 q = some (q1 * 4294967296 + (un21 * 4294967296 + un0) / y, ((un21 * 4294967296 + un0) % y) / 2 ^ s.toNat) := by
  have hy0 : 0 < y := by omega
  have hD0 : 0 ≤ (un21 * 4294967296 + un0) / y := Int.ediv_nonneg (by omega) (by omega)
  have hD1 : (un21 * 4294967296 + un0) / y < 4294967296 := Int.ediv_lt_of_lt_mul hy0 (by
    have : 4294967296 * y ≥ 4294967296 * (un21 + 1) := by omega
    omega)
  have fin : ∀ q, q = (un21 * 4294967296 + un0) / y → ∀ k, 1 ≤ k → ∀ rhat, bits_Div64.j4 k y s yn1 yn0 un0 q1 rhat un21 q false = some (q1 * 4294967296 + (un21 * 4294967296 + un0) / y, ((un21 * 4294967296 + un0) % y) / 2 ^ s.toNat) := by
    intro q hq k hk rhat
    obtain ⟨k, rfl⟩ : ∃ m, k = m + 1 := ⟨k - 1, by omega⟩
    simp only [bits_Div64.j4]
    rw [if_neg (by decide), if_pos hs0]
    have hm := Int.emod_add_mul_ediv (un21 * 4294967296 + un0) y
    have hlt := Int.emod_lt_of_pos (un21 * 4294967296 + un0) hy0
    have hge := Int.emod_nonneg (un21 * 4294967296 + un0) (by omega : y ≠ 0)
    have hqy : q * y = y * ((un21 * 4294967296 + un0) / y) := by rw [hq, Int.mul_comm]
    refine congrArg some (Prod.ext ?_ ?_)
    · show IntKind.u64.wrap ((IntKind.u64.wrap (q1 * 4294967296)) + q) = _
      simp only [u64w]; omega
    · show shr .u64 _ s = _
      unfold shr
      rw [Nat.min_eq_left (by show s.toNat ≤ 64; omega)]
      congr 1
      simp only [u64w]; omega
  intro m
  induction m with
  | zero => intro q rhat _ _ hr _ _ hm; omega
  | succ m ih =>
    intro q rhat hq hr0 hr hq0 hge hm k hk
    obtain ⟨k, rfl⟩ : ∃ m, k = m + 1 := ⟨k - 1, by omega⟩
    have hqb := dv_bound hy h0 h1 h2 h3 hu0 hu hn0 hn hq hr0 hq0
    have key : q ≥ 4294967296 ∨ q * yn0 > 4294967296 * rhat + un0 ↔ q * y > un21 * 4294967296 + un0 := by
      rw [dv_test hy hq]
      constructor
      · rintro (h | h)
        · have : 4294967296 * y ≤ q * y := Int.mul_le_mul_of_nonneg_right h (by omega)
          omega
        · exact h
      · exact fun h => .inr h
    -- the test's value
    have hstep : bits_Div64.l1 (k + 1) y s yn1 yn0 un0 q1 rhat un21 q = bits_Div64.j4 k y s yn1 yn0 un0 q1 rhat un21 q (decide (q * y > un21 * 4294967296 + un0)) := by
      simp only [bits_Div64.l1]
      by_cases hbig : q ≥ 4294967296
      · rw [if_pos hbig, decide_eq_true (key.1 (.inl hbig))]
      · rw [if_neg hbig]
        congr 1
        rw [decide_eq_decide, ← key]
        have e1 : IntKind.u64.wrap (q * yn0) = q * yn0 := by
          rw [u64w]
          have a1 : q * yn0 ≤ 4294967295 * yn0 := Int.mul_le_mul_of_nonneg_right (by omega) h0
          have a2 : 0 ≤ q * yn0 := Int.mul_nonneg hq0 h0
          omega
        rw [e1]; simp only [u64w]; omega
    rw [hstep]
    by_cases ht : q * y > un21 * 4294967296 + un0
    · rw [decide_eq_true ht]
      have hle := dv_top hy0 ht
      obtain ⟨k, rfl⟩ : ∃ m, k = m + 1 := ⟨k - 1, by omega⟩
      have hw : IntKind.u64.wrap (rhat + yn1) = rhat + yn1 := by rw [u64w]; omega
      have hwq : IntKind.u64.wrap (q - 1) = q - 1 := by rw [u64w]; omega
      have hq' : (q - 1) * yn1 + (rhat + yn1) = un21 := by rw [Int.sub_mul]; omega
      simp only [bits_Div64.j4, hw, hwq, if_true]
      by_cases hb : rhat + yn1 ≥ 4294967296
      · -- the break: the digit is found
        rw [if_pos hb, if_pos hs0]
        have hqe : q - 1 = (un21 * 4294967296 + un0) / y := by
          refine dv_end hy0 ?_ hle
          rw [← dv_test (un1 := un0) hy hq']
          have hlt : q - 1 < 4294967296 := by
            by_cases h : q - 1 < 4294967296
            · exact h
            · exfalso
              have h := Int.not_lt.1 h
              have : 4294967296 * yn1 ≤ (q - 1) * yn1 := Int.mul_le_mul_of_nonneg_right h (by omega)
              omega
          have a1 : (q - 1) * yn0 ≤ 4294967295 * yn0 := Int.mul_le_mul_of_nonneg_right (by omega) h0
          omega
        have := fin (q - 1) hqe 1 (Nat.le_refl 1) 0
        simp only [bits_Div64.j4] at this
        rw [if_neg (by decide), if_pos hs0] at this
        exact this
      · rw [if_neg hb]
        exact ih (q - 1) (rhat + yn1) hq' (by omega) (by omega) (by omega) hle (by push_cast at hm ⊢; omega) k (by omega)
    · rw [decide_eq_false ht]
      exact fin q (dv_end hy0 ht hge) k (by omega) rhat

/-- The second digit, begun. -/
theorem dv_j2 {un32 un1 un0 : Int} (hs0 : 0 ≤ s) (hs : s ≤ 64) (hu0 : 0 ≤ un32) (hu : un32 < y) (hn10 : 0 ≤ un1) (hn1 : un1 < 4294967296) (hn0 : 0 ≤ un0) (hn : un0 < 4294967296) {q : Int} (hq : q = (un32 * 4294967296 + un1) / y) :
    ∀ k, 7 ≤ k → bits_Div64.j2 k y s yn1 yn0 un32 un1 un0 q = some (q * 4294967296 + (((un32 * 4294967296 + un1) % y) * 4294967296 + un0) / y, ((((un32 * 4294967296 + un1) % y) * 4294967296 + un0) % y) / 2 ^ s.toNat) := by
  intro k hk
  obtain ⟨k, rfl⟩ : ∃ m, k = m + 1 := ⟨k - 1, by omega⟩
  have hy0 : 0 < y := by omega
  have hm := Int.emod_add_mul_ediv (un32 * 4294967296 + un1) y
  have hlt := Int.emod_lt_of_pos (un32 * 4294967296 + un1) hy0
  have hge := Int.emod_nonneg (un32 * 4294967296 + un1) (by omega : y ≠ 0)
  have hqy : q * y = y * ((un32 * 4294967296 + un1) / y) := by rw [hq, Int.mul_comm]
  have hq0 : 0 ≤ q := by rw [hq]; exact Int.ediv_nonneg (by omega) (by omega)
  have hq1 : q < 4294967296 := by
    rw [hq]
    exact Int.ediv_lt_of_lt_mul hy0 (by
      have : 4294967296 * y ≥ 4294967296 * (un32 + 1) := by omega
      omega)
  have e : IntKind.u64.wrap ((IntKind.u64.wrap ((IntKind.u64.wrap (un32 * 4294967296)) + un1)) - (IntKind.u64.wrap (q * y))) = (un32 * 4294967296 + un1) % y := by
    simp only [u64w]; omega
  generalize hR : (un32 * 4294967296 + un1) % y = R at *
  have ht : Int.tdiv R yn1 = R / yn1 := Int.tdiv_eq_ediv_of_nonneg hge
  have hd := Int.emod_add_mul_ediv R yn1
  have hd1 := Int.emod_lt_of_pos R (show 0 < yn1 by omega)
  have hd2 := Int.emod_nonneg R (by omega : yn1 ≠ 0)
  have hd3 : 0 ≤ R / yn1 := Int.ediv_nonneg hge (by omega)
  have hd4 : R / yn1 ≤ R := Int.ediv_le_self _ hge
  have hcom : R / yn1 * yn1 = yn1 * (R / yn1) := Int.mul_comm _ _
  have ew : IntKind.u64.wrap (R / yn1) = R / yn1 := by rw [u64w]; omega
  have er : IntKind.u64.wrap (R - IntKind.u64.wrap (R / yn1 * yn1)) = R % yn1 := by simp only [u64w]; omega
  simp only [bits_Div64.j2]
  rw [if_neg (by omega), e, ht, ew, er]
  refine dv_l1 hy h0 h1 h2 h3 hs0 hs hge hlt hn0 hn hq0 hq1 2 (R / yn1) (R % yn1) (by omega) hd2 (by omega) hd3 ?_ (by omega) k (by omega)
  -- the first guess is at least the digit
  have : (R * 4294967296 + un0) / y < R / yn1 + 1 := Int.ediv_lt_of_lt_mul hy0 (by
    have a1 : (R / yn1 + 1) * y = (R / yn1 * yn1 + yn1) * 4294967296 + (R / yn1 + 1) * yn0 := by
      rw [hy, Int.mul_add, ← Int.mul_assoc, Int.add_mul, Int.one_mul]
    have a2 : 0 ≤ (R / yn1 + 1) * yn0 := Int.mul_nonneg (by omega) h0
    omega)
  omega
/-- The first digit's loop. -/
theorem dv_l0 {un32 un1 un0 : Int} (hs0 : 0 ≤ s) (hs : s ≤ 64) (hu0 : 0 ≤ un32) (hu : un32 < y) (hn10 : 0 ≤ un1) (hn1 : un1 < 4294967296) (hn0 : 0 ≤ un0) (hn : un0 < 4294967296) :
    ∀ (m : Nat) (q rhat : Int), q * yn1 + rhat = un32 → 0 ≤ rhat → rhat < 4294967296 → 0 ≤ q → (un32 * 4294967296 + un1) / y ≤ q → 4294967296 ≤ rhat + m * 2147483648 → ∀ k, 2 * m + 9 ≤ k →
      bits_Div64.l0 k y s yn1 yn0 un32 un1 un0 q rhat = some ((un32 * 4294967296 + un1) / y * 4294967296 + (((un32 * 4294967296 + un1) % y) * 4294967296 + un0) / y, ((((un32 * 4294967296 + un1) % y) * 4294967296 + un0) % y) / 2 ^ s.toNat) := by
  have hy0 : 0 < y := by omega
  have fin := @dv_j2 y s yn1 yn0 hy h0 h1 h2 h3 un32 un1 un0 hs0 hs hu0 hu hn10 hn1 hn0 hn
  intro m
  induction m with
  | zero => intro q rhat _ _ hr _ _ hm; omega
  | succ m ih =>
    intro q rhat hq hr0 hr hq0 hge hm k hk
    obtain ⟨k, rfl⟩ : ∃ m, k = m + 1 := ⟨k - 1, by omega⟩
    have hqb := dv_bound hy h0 h1 h2 h3 hu0 hu hn10 hn1 hq hr0 hq0
    have key : q ≥ 4294967296 ∨ q * yn0 > 4294967296 * rhat + un1 ↔ q * y > un32 * 4294967296 + un1 := by
      rw [dv_test hy hq]
      constructor
      · rintro (h | h)
        · have : 4294967296 * y ≤ q * y := Int.mul_le_mul_of_nonneg_right h (by omega)
          omega
        · exact h
      · exact fun h => .inr h
    have hstep : bits_Div64.l0 (k + 1) y s yn1 yn0 un32 un1 un0 q rhat = bits_Div64.j1 k y s yn1 yn0 un32 un1 un0 q rhat (decide (q * y > un32 * 4294967296 + un1)) := by
      simp only [bits_Div64.l0]
      by_cases hbig : q ≥ 4294967296
      · rw [if_pos hbig, decide_eq_true (key.1 (.inl hbig))]
      · rw [if_neg hbig]
        congr 1
        rw [decide_eq_decide, ← key]
        have e1 : IntKind.u64.wrap (q * yn0) = q * yn0 := by
          rw [u64w]
          have a1 : q * yn0 ≤ 4294967295 * yn0 := Int.mul_le_mul_of_nonneg_right (by omega) h0
          have a2 : 0 ≤ q * yn0 := Int.mul_nonneg hq0 h0
          omega
        rw [e1]; simp only [u64w]; omega
    rw [hstep]
    by_cases ht : q * y > un32 * 4294967296 + un1
    · rw [decide_eq_true ht]
      have hle := dv_top hy0 ht
      obtain ⟨k, rfl⟩ : ∃ m, k = m + 1 := ⟨k - 1, by omega⟩
      have hD0 : 0 ≤ (un32 * 4294967296 + un1) / y := Int.ediv_nonneg (by omega) (by omega)
      have hw : IntKind.u64.wrap (rhat + yn1) = rhat + yn1 := by rw [u64w]; omega
      have hwq : IntKind.u64.wrap (q - 1) = q - 1 := by rw [u64w]; omega
      have hq' : (q - 1) * yn1 + (rhat + yn1) = un32 := by rw [Int.sub_mul]; omega
      simp only [bits_Div64.j1, hw, hwq, if_true]
      by_cases hb : rhat + yn1 ≥ 4294967296
      · rw [if_pos hb]
        have hqe : q - 1 = (un32 * 4294967296 + un1) / y := by
          refine dv_end hy0 ?_ hle
          rw [← dv_test (un1 := un1) hy hq']
          have hlt : q - 1 < 4294967296 := by
            by_cases h : q - 1 < 4294967296
            · exact h
            · exfalso
              have h := Int.not_lt.1 h
              have : 4294967296 * yn1 ≤ (q - 1) * yn1 := Int.mul_le_mul_of_nonneg_right h (by omega)
              omega
          have a1 : (q - 1) * yn0 ≤ 4294967295 * yn0 := Int.mul_le_mul_of_nonneg_right (by omega) h0
          omega
        rw [fin hqe k (by omega), hqe]
      · rw [if_neg hb]
        exact ih (q - 1) (rhat + yn1) hq' (by omega) (by omega) (by omega) hle (by push_cast at hm ⊢; omega) k (by omega)
    · rw [decide_eq_false ht]
      obtain ⟨k, rfl⟩ : ∃ m, k = m + 1 := ⟨k - 1, by omega⟩
      simp only [bits_Div64.j1]
      rw [if_neg (by decide), fin (dv_end hy0 ht hge) k (by omega), ← dv_end hy0 ht hge]
end
end Go.Proofs.Ytngiipodkbfokaa.PAll
