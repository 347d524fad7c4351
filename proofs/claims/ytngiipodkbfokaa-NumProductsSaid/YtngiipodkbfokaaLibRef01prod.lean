/- Plain lemmas on the printed functions: numbers and lists alone, no program and no memory. -/
import Derived.Test.YtngiipodkbfokaaLibMuldiv
import Derived.Test.YtngiipodkbfokaaLibRef01
import Derived.Test.YtngiipodkbfokaaPAllx14
import Derived.Test.YtngiipodkbfokaaPAllx15
namespace Go.Proofs.Ytngiipodkbfokaa.PAll
open Go.RowKit Go.Proofs.YtngiipodkbfokaaW.PrintWords Go.Proofs.YtngiipodkbfokaaW.PrintLast
set_option linter.unusedVariables false
/-! ### the reference's MulDiv tells the same -/
theorem bit_eq (a i : Nat) (ha : a < 18446744073709551616) (hi : i ≤ 63) : Go.bits .and .u64 (shr .u64 (a : Int) (i : Int)) 1 = ((a / 2 ^ i % 2 : Nat) : Int) := by
  have hs : shr .u64 (a : Int) (i : Int) = ((a / 2 ^ i : Nat) : Int) := by
    unfold shr
    rw [Nat.min_eq_left (by show (i : Int).toNat ≤ 64; omega), Int.toNat_natCast, Int.natCast_ediv]; simp
  have hle : a / 2 ^ i ≤ a := Nat.div_le_self _ _
  have := bits_mask .u64 64 (by decide) (fun n h0 h1 => by rw [u64w]; omega) 1 (by decide) ((a / 2 ^ i : Nat) : Int) (Int.natCast_nonneg _) (by
    have : ((2 : Int) ^ 64) = 18446744073709551616 := by decide
    rw [this]; omega)
  rw [hs]
  have e : (2 : Int) ^ 1 - 1 = 1 := by decide
  rw [e] at this
  rw [this, Int.natCast_emod]
  rfl
/-- What a division tells of the doubled dividend, and of one more divisor's part. -/
theorem div_double {N c q r : Nat} (hc : 0 < c) (h : q * c + r = N) (hr : r < c) :
    (2 * r < c → (2 * q) * c + 2 * r = 2 * N) ∧ (c ≤ 2 * r → (2 * q + 1) * c + (2 * r - c) = 2 * N ∧ 2 * r - c < c) := by
  have e1 : (2 * q) * c = 2 * (q * c) := Nat.mul_assoc _ _ _
  have e2 : (2 * q + 1) * c = 2 * (q * c) + c := by rw [Nat.add_mul, e1, Nat.one_mul]
  constructor
  · intro h2; omega
  · intro h2; omega
theorem q_le_total {A a b c q r i : Nat} (hc : 0 < c) (hA : A * 2 ^ i ≤ a) (h : q * c + r = A * b) : q * 2 ^ i ≤ a * b / c := by
  rw [Nat.le_div_iff_mul_le hc]
  have h1 : q * c ≤ A * b := by omega
  have h2 : q * 2 ^ i * c = q * c * 2 ^ i := by rw [Nat.mul_right_comm]
  have h3 : A * b * 2 ^ i = A * 2 ^ i * b := by rw [Nat.mul_right_comm]
  calc q * 2 ^ i * c = q * c * 2 ^ i := h2
    _ ≤ A * b * 2 ^ i := Nat.mul_le_mul_right _ h1
    _ = A * 2 ^ i * b := h3
    _ ≤ a * b := Nat.mul_le_mul_right _ hA
def prodOk (a b c : Nat) (r : Option (Int × Int × Bool)) : Prop := (a * b / c ≤ 9223372036854775809 ∧ r = some (((a * b / c : Nat) : Int), ((a * b % c : Nat) : Int), true)) ∨ (∃ x y : Int, r = some (x, y, false) ∧ 9223372036854775808 < a * b / c)
theorem ref01_product_loop {a b c : Nat} (ha : a ≤ 9223372036854775808) (hb : b ≤ 9223372036854775808) (hc : c ≤ 9223372036854775808) (hc0 : 0 < c) :
    ∀ (n : Nat), n ≤ 64 → ∀ (q r : Nat), q * c + r = a / 2 ^ n * b → r < c → q ≤ 9223372036854775809 → ∀ k, 3 * n + 1 ≤ k →
      prodOk a b c (mapsheetsref01_product.l0 k a b c q r ((n : Int) - 1)) := by
  intro n
  induction n with
  | zero =>
    intro _ q r hq hr _ k hk
    obtain ⟨k, rfl⟩ : ∃ j, k = j + 1 := ⟨k - 1, by omega⟩
    simp only [mapsheetsref01_product.l0]
    rw [if_neg (by omega)]
    simp only [Nat.pow_zero, Nat.div_one] at hq
    have hq1 : a * b / c = q := by
      rw [← hq, Nat.mul_comm q c, Nat.mul_add_div hc0, Nat.div_eq_of_lt hr, Nat.add_zero]
    have hr1 : a * b % c = r := by
      rw [← hq, Nat.mul_comm q c, Nat.mul_add_mod, Nat.mod_eq_of_lt hr]
    exact .inl ⟨by omega, by rw [hq1, hr1]⟩
  | succ i ih =>
    intro hn q r hq hr hqb k hk
    obtain ⟨k, rfl⟩ : ∃ j, k = j + 3 := ⟨k - 3, by omega⟩
    have hnext : ((i + 1 : Nat) : Int) - 1 = (i : Int) := by omega
    rw [hnext]
    -- the digits of a
    have hA : a / 2 ^ i = 2 * (a / 2 ^ (i + 1)) + a / 2 ^ i % 2 := by
      have h1 : a / 2 ^ (i + 1) = a / 2 ^ i / 2 := by rw [Nat.pow_succ, Nat.div_div_eq_div_mul]
      omega
    have hAle : a / 2 ^ (i + 1) * 2 ^ (i + 1) ≤ a := Nat.div_mul_le_self _ _
    have hAle0 : a / 2 ^ i * 2 ^ i ≤ a := Nat.div_mul_le_self _ _
    have htot := q_le_total (i := i + 1) hc0 hAle hq
    have hp : 2 ≤ 2 ^ (i + 1) := by
      have := Nat.pow_le_pow_right (n := 2) (by decide) (show 1 ≤ i + 1 by omega)
      simpa using this
    have hp0 : 1 ≤ 2 ^ i := Nat.two_pow_pos i
    -- l0's step
    have hstep : mapsheetsref01_product.l0 (k + 3) a b c q r (i : Int) = if (q : Int) > 4611686018427387904 then some (0, 0, false) else
        mapsheetsref01_product.j1 (k + 2) a b c ((if c ≤ 2 * r then 2 * q + 1 else 2 * q : Nat) : Int) ((if c ≤ 2 * r then 2 * r - c else 2 * r : Nat) : Int) (i : Int) := by
      simp only [mapsheetsref01_product.l0]
      rw [if_pos (by omega)]
      by_cases hbig : (q : Int) > 4611686018427387904
      · rw [if_pos hbig, if_pos hbig]
      · rw [if_neg hbig, if_neg hbig, show IntKind.u64.wrap (2 * (r : Int)) = 2 * (r : Int) by rw [u64w]; omega]
        by_cases h2 : c ≤ 2 * r
        · rw [if_pos (by omega), if_pos h2, if_pos h2]
          congr 1
          · simp only [u64w]; omega
          · rw [u64w]; omega
        · rw [if_neg (by omega), if_neg h2, if_neg h2]
          congr 1
          rw [u64w]; omega
    rw [hstep]
    by_cases hbig : (q : Int) > 4611686018427387904
    · rw [if_pos hbig]
      refine .inr ⟨0, 0, rfl, ?_⟩
      have : q * 2 ≤ q * 2 ^ (i + 1) := Nat.mul_le_mul_left _ hp
      omega
    · rw [if_neg hbig]
      obtain ⟨d1, d2⟩ := div_double hc0 hq hr
      -- the doubled state
      obtain ⟨q', hq'⟩ : ∃ q', q' = if c ≤ 2 * r then 2 * q + 1 else 2 * q := ⟨_, rfl⟩
      obtain ⟨r', hr'⟩ : ∃ r', r' = if c ≤ 2 * r then 2 * r - c else 2 * r := ⟨_, rfl⟩
      have hst : q' * c + r' = 2 * (a / 2 ^ (i + 1) * b) ∧ r' < c ∧ q' ≤ 9223372036854775809 := by
        by_cases h2 : c ≤ 2 * r
        · rw [if_pos h2] at hq' hr'; subst hq' hr'; exact ⟨(d2 h2).1, (d2 h2).2, by omega⟩
        · rw [if_neg h2] at hq' hr'; subst hq' hr'; exact ⟨d1 (by omega), by omega, by omega⟩
      rw [← hq', ← hr']
      clear hq' hr' d1 d2 hstep
      obtain ⟨s1, s2, s3⟩ := hst
      -- j1's step
      have ei : IntKind.u64.wrap (i : Int) = (i : Int) := by rw [u64w]; omega
      simp only [mapsheetsref01_product.j1]
      rw [ei, if_pos (by omega), bit_eq a i (by omega) (by omega), show wrap64 ((i : Int) - 1) = (i : Int) - 1 by unfold wrap64; omega]
      by_cases hbit : a / 2 ^ i % 2 = 0
      · rw [if_pos (by omega)]
        refine ih (by omega) q' r' ?_ s2 (by omega) (k + 1) (by omega)
        rw [s1, hA, hbit]; show 2 * (a / 2 ^ (i + 1) * b) = (2 * (a / 2 ^ (i + 1))) * b; rw [Nat.mul_assoc]
      · have hb1 : a / 2 ^ i % 2 = 1 := by omega
        rw [if_neg (by omega)]
        have hq2 : (q' + b / c) * c + (r' + b % c) = a / 2 ^ i * b := by
          have hdb := Nat.mod_add_div b c
          have e1 : (q' + b / c) * c = q' * c + b / c * c := Nat.add_mul _ _ _
          have e2 : (2 * (a / 2 ^ (i + 1)) + 1) * b = 2 * (a / 2 ^ (i + 1) * b) + b := by rw [Nat.add_mul, Nat.one_mul, Nat.mul_assoc]
          have e3 : b / c * c = c * (b / c) := Nat.mul_comm _ _
          rw [hA, hb1, e1, e2, ← s1]; omega
        have htot2 : (q' + b / c) * 2 ^ i ≤ a * b / c := q_le_total hc0 hAle0 hq2
        have hmul : q' + b / c ≤ (q' + b / c) * 2 ^ i := Nat.le_mul_of_pos_right _ hp0
        have hbc : b / c ≤ b := Nat.div_le_self _ _
        have etd : Int.tdiv (b : Int) (c : Int) = ((b / c : Nat) : Int) := by rw [Int.ofNat_tdiv]
        have etm : Int.tmod (b : Int) (c : Int) = ((b % c : Nat) : Int) := by rw [Int.ofNat_tmod]
        have hmc := Nat.mod_lt b hc0
        have hnn : (0 : Int) ≤ ((b / c : Nat) : Int) := Int.natCast_nonneg _
        have hnm : (0 : Int) ≤ ((b % c : Nat) : Int) := Int.natCast_nonneg _
        have hmc' : ((b % c : Nat) : Int) < (c : Int) := by omega
        have ewd : IntKind.u64.wrap ((b / c : Nat) : Int) = ((b / c : Nat) : Int) := by
          rw [u64w]; generalize b / c = D at *; omega
        by_cases hover : 9223372036854775808 < q' + b / c
        · refine .inr ⟨0, 0, ?_, by omega⟩
          by_cases hq9 : (q' : Int) > 9223372036854775808
          · rw [if_pos hq9]
            simp only [mapsheetsref01_product.j2, if_true]
          · rw [if_neg hq9, if_neg (by omega), etd, ewd]
            have : decide (((b / c : Nat) : Int) > IntKind.u64.wrap (9223372036854775808 - (q' : Int))) = true := by
              rw [u64w]; simp only [decide_eq_true_eq]; generalize b / c = D at *; omega
            rw [this]
            simp only [mapsheetsref01_product.j2, if_true]
        · rw [if_neg (by omega), if_neg (by omega), etd, ewd]
          have : decide (((b / c : Nat) : Int) > IntKind.u64.wrap (9223372036854775808 - (q' : Int))) = false := by
            rw [u64w]; simp only [decide_eq_false_iff_not]; generalize b / c = D at *; omega
          rw [this]
          simp only [mapsheetsref01_product.j2]
          rw [if_neg (by decide), if_neg (by omega), etd, etm, ewd, show wrap64 ((i : Int) - 1) = (i : Int) - 1 by unfold wrap64; omega]
          have ew1 : IntKind.u64.wrap ((r' : Int) + ((b % c : Nat) : Int)) = ((r' + b % c : Nat) : Int) := by
            rw [u64w]; generalize b % c = D at *; omega
          have ew2 : IntKind.u64.wrap ((q' : Int) + ((b / c : Nat) : Int)) = ((q' + b / c : Nat) : Int) := by
            rw [u64w]; generalize b / c = D at *; omega
          rw [ew1, ew2]
          by_cases hge : c ≤ r' + b % c
          · rw [if_pos (by omega)]
            have ew3 : IntKind.u64.wrap (((q' + b / c : Nat) : Int) + 1) = ((q' + b / c + 1 : Nat) : Int) := by
              rw [u64w]; generalize q' + b / c = D at *; omega
            have ew4 : IntKind.u64.wrap (((r' + b % c : Nat) : Int) - (c : Int)) = ((r' + b % c - c : Nat) : Int) := by
              rw [u64w]; omega
            rw [ew3, ew4]
            refine ih (by omega) (q' + b / c + 1) (r' + b % c - c) ?_ (by omega) (by generalize q' + b / c = D at *; omega) k (by omega)
            rw [← hq2, Nat.add_mul _ 1, Nat.one_mul]; omega
          · rw [if_neg (by omega)]
            exact ih (by omega) (q' + b / c) (r' + b % c) hq2 (by omega) (by omega) k (by omega)
theorem ref01_MulDiv_eq {a b c : Int} (ha : -9223372036854775808 ≤ a ∧ a ≤ 9223372036854775807) (hb : -9223372036854775808 ≤ b ∧ b ≤ 9223372036854775807) (hc : -9223372036854775808 ≤ c ∧ c ≤ 9223372036854775807) (k : Nat) (hk : 200 ≤ k) :
    mapsheetsref01_MulDiv.f k a b c = some (mulDivS a b c) := by
  unfold mapsheetsref01_MulDiv.f mulDivS
  by_cases h0 : c = 0
  · rw [if_pos h0, if_pos h0]
  · rw [if_neg h0, if_neg h0, ref01_size_eq ha, Option.bind_some, ref01_size_eq hb, Option.bind_some, ref01_size_eq hc, Option.bind_some]
    have hA := num_abs_nat ha
    have hB := num_abs_nat hb
    have hC := num_abs_nat hc
    have hC0 : 0 < c.natAbs := by omega
    have hz : a.natAbs / 2 ^ 64 = 0 := Nat.div_eq_of_lt (by omega)
    have hp := ref01_product_loop hA hB hC hC0 64 (Nat.le_refl _) 0 0 (by rw [hz]; simp) hC0 (by decide) k (by omega)
    have hneg : (((decide (a < 0)) != (decide (b < 0))) != (decide (c < 0))) = negOf a b c := rfl
    have e63 : ((64 : Nat) : Int) - 1 = 63 := by decide
    rw [e63] at hp
    unfold mapsheetsref01_product.f
    have hp' : prodOk a.natAbs b.natAbs c.natAbs (mapsheetsref01_product.l0 k (a.natAbs : Int) (b.natAbs : Int) (c.natAbs : Int) 0 0 63) := hp
    generalize mapsheetsref01_product.l0 k (a.natAbs : Int) (b.natAbs : Int) (c.natAbs : Int) 0 0 63 = res at *
    generalize hQ : a.natAbs * b.natAbs / c.natAbs = Q at *
    generalize hR : a.natAbs * b.natAbs % c.natAbs = R at *
    rw [hneg]
    unfold prodOk at hp'
    rw [hQ, hR] at hp'
    rcases hp' with ⟨hQb, rfl⟩ | ⟨x, y, rfl, hov⟩
    · rw [Option.bind_some]
      dsimp only
      rw [if_pos rfl]
      unfold mulDivN
      cases hn : negOf a b c with
      | true =>
        rw [if_pos rfl, if_pos rfl]
        by_cases hr : (R : Int) > 0
        · have ew : IntKind.u64.wrap ((Q : Int) + 1) = (Q : Int) + 1 := by rw [u64w]; omega
          rw [if_pos hr, ew, decide_eq_true (by omega), ref01_signed_eq _ (by omega) k (by omega), Option.bind_some, if_neg (show ¬ (R : Int) = 0 by omega)]
          by_cases hle : (Q : Int) + 1 ≤ 9223372036854775808
          · rw [signedS_true hle, if_pos hle]
          · rw [signedS_over (.inl (by omega)), if_neg hle]
        · rw [if_neg hr, ref01_signed_eq _ (by omega) k (by omega), Option.bind_some, if_pos (show (R : Int) = 0 by omega), show (Q : Int) + 0 = Q by omega]
          by_cases hq0 : (Q : Int) > 0
          · rw [decide_eq_true hq0]
            by_cases hle : (Q : Int) ≤ 9223372036854775808
            · rw [signedS_true hle, if_pos hle]
            · rw [signedS_over (.inl (by omega)), if_neg hle]
          · have : (Q : Int) = 0 := by omega
            rw [decide_eq_false hq0, this]; rfl
      | false =>
        rw [if_neg (by decide), if_neg (by decide), ref01_signed_eq _ (by omega) k (by omega), Option.bind_some]
        by_cases hle : (Q : Int) ≤ 9223372036854775807
        · rw [signedS_false (by omega), if_pos hle]
        · rw [signedS_over (by by_cases h : (Q : Int) = 9223372036854775808; exact .inr ⟨h, rfl⟩; exact .inl (by omega)), if_neg hle]
    · rw [Option.bind_some]
      dsimp only
      rw [if_neg (by decide)]
      unfold mulDivN
      cases negOf a b c
      · rw [if_neg (by decide), if_neg (by omega)]
      · rw [if_pos rfl, if_neg (by split <;> omega)]
end Go.Proofs.Ytngiipodkbfokaa.PAll
