/- Plain lemmas on the printed functions: numbers and lists alone, no program and no memory. -/
import Derived.Test.YtngiipodkbfokaaLibFcmp
namespace Go.Proofs.Ytngiipodkbfokaa.PAll
open Go.RowKit Go.Proofs.YtngiipodkbfokaaW.PrintWords Go.Proofs.YtngiipodkbfokaaW.PrintLast
set_option linter.unusedVariables false
/-! ### plain laws of fractions -/
theorem sgn_swap (x y : Int) : sgn y x = -(sgn x y) := by
  rcases sgn_range x y with ⟨e, h⟩ | ⟨e, h⟩ | ⟨e, h⟩ <;> rcases sgn_range y x with ⟨e', h'⟩ | ⟨e', h'⟩ | ⟨e', h'⟩ <;> first | (exfalso; omega) | (rw [e, e'] <;> rfl)
theorem cmpS_swap (n1 d1 n2 d2 : Int) : cmpS n2 d2 n1 d1 = -(cmpS n1 d1 n2 d2) := by
  unfold cmpS
  by_cases h : validS n1 d1 = true ∧ validS n2 d2 = true
  · rw [if_pos h, if_pos (show validS n2 d2 = true ∧ validS n1 d1 = true from ⟨h.2, h.1⟩)]; exact sgn_swap _ _
  · rw [if_neg h, if_neg (show ¬ (validS n2 d2 = true ∧ validS n1 d1 = true) from fun g => h ⟨g.2, g.1⟩)]; rfl
theorem cmpS_self (n d : Int) : cmpS n d n d = 0 := by
  unfold cmpS
  by_cases h : validS n d = true ∧ validS n d = true
  · rw [if_pos h]; unfold sgn; rw [if_neg (by omega), if_neg (by omega)]
  · rw [if_neg h]
theorem cmpS_range (n1 d1 n2 d2 : Int) : -1 ≤ cmpS n1 d1 n2 d2 ∧ cmpS n1 d1 n2 d2 ≤ 1 := by
  unfold cmpS
  split
  · rcases sgn_range (n1 * d2) (n2 * d1) with ⟨e, h⟩ | ⟨e, h⟩ | ⟨e, h⟩ <;> rw [e] <;> decide
  · decide
theorem makeS_err {a b : Int} (h : ¬ (makeS a b).2.2 = 0) : (makeS a b).1 = 0 ∧ (makeS a b).2.1 = 0 := by
  unfold makeS at h ⊢
  by_cases h0 : b = 0
  · rw [if_pos h0]; exact ⟨rfl, rfl⟩
  · rw [if_neg h0] at h ⊢
    split
    · rename_i hf; rw [if_pos hf] at h; exact absurd rfl h
    · exact ⟨rfl, rfl⟩
/-- A valid fraction that is multiplied above and below is reduced again. -/
theorem makeS_scaled {m n d : Int} (hm : 0 < m) (hv : validS n d = true) (hn : n.natAbs ≤ 1099511627776) (hd : d ≤ 1099511627776) : makeS (-(m * n)) (-(m * d)) = (n, d, 0) := by
  obtain ⟨hd0, hg⟩ := of_decide_eq_true hv
  have hmd : 0 < m * d := Int.mul_pos hm hd0
  have hA : (-(m * n)).natAbs = m.natAbs * n.natAbs := by rw [Int.natAbs_neg, Int.natAbs_mul]
  have hB : (-(m * d)).natAbs = m.natAbs * d.natAbs := by rw [Int.natAbs_neg, Int.natAbs_mul]
  have hG : Nat.gcd (-(m * n)).natAbs (-(m * d)).natAbs = m.natAbs := by rw [hA, hB, Nat.gcd_mul_left, hg, Nat.mul_one]
  have hM : 0 < m.natAbs := by omega
  unfold makeS
  rw [if_neg (by omega), hG, hA, hB, Nat.mul_div_cancel_left _ hM, Nat.mul_div_cancel_left _ hM, decide_eq_true (show -(m * d) < 0 by omega)]
  by_cases hp : 0 < n
  · have : 0 < m * n := Int.mul_pos hm hp
    rw [decide_eq_true (show -(m * n) < 0 by omega), show (true != true) = false from rfl, if_pos ⟨fitN_false.2 (by omega), by omega⟩, sgnN_false]
    exact Prod.ext (by show (n.natAbs : Int) = n; omega) (Prod.ext (by show (d.natAbs : Int) = d; omega) rfl)
  · have : m * n ≤ 0 := Int.mul_nonpos_of_nonneg_of_nonpos (by omega) (by omega)
    rw [decide_eq_false (show ¬ -(m * n) < 0 by omega), show (false != true) = true from rfl, if_pos ⟨fitN_true.2 (by omega), by omega⟩, sgnN_true]
    exact Prod.ext (by show -(n.natAbs : Int) = n; omega) (Prod.ext (by show (d.natAbs : Int) = d; omega) rfl)
/-- Valid fractions of the same value are the same. -/
theorem valid_unique {n1 d1 n2 d2 : Int} (h1 : validS n1 d1 = true) (h2 : validS n2 d2 = true) (h : n1 * d2 = n2 * d1) : n1 = n2 ∧ d1 = d2 := by
  obtain ⟨p1, g1⟩ := of_decide_eq_true h1
  obtain ⟨p2, g2⟩ := of_decide_eq_true h2
  have hN : n1.natAbs * d2.natAbs = n2.natAbs * d1.natAbs := by rw [← Int.natAbs_mul, ← Int.natAbs_mul, h]
  have c1 : Nat.Coprime d1.natAbs n1.natAbs := by unfold Nat.Coprime; rw [Nat.gcd_comm]; exact g1
  have c2 : Nat.Coprime d2.natAbs n2.natAbs := by unfold Nat.Coprime; rw [Nat.gcd_comm]; exact g2
  have v1 : d1.natAbs ∣ d2.natAbs := c1.dvd_of_dvd_mul_left ⟨n2.natAbs, by rw [hN, Nat.mul_comm]⟩
  have v2 : d2.natAbs ∣ d1.natAbs := c2.dvd_of_dvd_mul_left ⟨n1.natAbs, by rw [← hN, Nat.mul_comm]⟩
  have e : d1.natAbs = d2.natAbs := Nat.dvd_antisymm v1 v2
  have e' : d1 = d2 := by omega
  subst e'
  exact ⟨Int.eq_of_mul_eq_mul_right (by omega) h, rfl⟩
/-- The order is transitive. -/
theorem le_trans3 {n1 d1 n2 d2 n3 d3 : Int} (p1 : 0 < d1) (p2 : 0 < d2) (p3 : 0 < d3) (h1 : n1 * d2 ≤ n2 * d1) (h2 : n2 * d3 ≤ n3 * d2) : n1 * d3 ≤ n3 * d1 := by
  have a1 : n1 * d2 * d3 ≤ n2 * d1 * d3 := Int.mul_le_mul_of_nonneg_right h1 (by omega)
  have a2 : n2 * d3 * d1 ≤ n3 * d2 * d1 := Int.mul_le_mul_of_nonneg_right h2 (by omega)
  have e1 : n1 * d2 * d3 = n1 * d3 * d2 := by rw [Int.mul_assoc, Int.mul_comm d2 d3, ← Int.mul_assoc]
  have e2 : n2 * d1 * d3 = n2 * d3 * d1 := by rw [Int.mul_assoc, Int.mul_comm d1 d3, ← Int.mul_assoc]
  have e3 : n3 * d2 * d1 = n3 * d1 * d2 := by rw [Int.mul_assoc, Int.mul_comm d2 d1, ← Int.mul_assoc]
  exact Int.le_of_mul_le_mul_right (show n1 * d3 * d2 ≤ n3 * d1 * d2 by omega) p2
/-- Small integers make a fraction. -/
theorem makeS_small {a b : Int} (ha : -32768 ≤ a ∧ a ≤ 32767) (hb : -32768 ≤ b ∧ b ≤ 32767) (h0 : b ≠ 0) : (makeS a b).2.2 = 0 ∧ (-32768 ≤ (makeS a b).1 ∧ (makeS a b).1 ≤ 32768) ∧ (0 ≤ (makeS a b).2.1 ∧ (makeS a b).2.1 ≤ 32768) := by
  have d1 := Nat.div_le_self a.natAbs (Nat.gcd a.natAbs b.natAbs)
  have d2 := Nat.div_le_self b.natAbs (Nat.gcd a.natAbs b.natAbs)
  unfold makeS
  rw [if_neg h0]
  generalize a.natAbs / Nat.gcd a.natAbs b.natAbs = x at *
  generalize b.natAbs / Nat.gcd a.natAbs b.natAbs = y at *
  generalize ((decide (a < 0)) != (decide (b < 0))) = s at *
  have hf : fitN s x := by
    cases s
    · exact fitN_false.2 (by omega)
    · exact fitN_true.2 (by omega)
  rw [if_pos ⟨hf, by omega⟩]
  have hs : (sgnN s x).natAbs = x := sgnN_abs s x
  exact ⟨rfl, ⟨by show -32768 ≤ sgnN s x; omega, by show sgnN s x ≤ 32768; omega⟩, by show (0 : Int) ≤ (y : Int); omega, by show (y : Int) ≤ 32768; omega⟩
theorem makeS_range (a b : Int) : (-9223372036854775808 ≤ (makeS a b).1 ∧ (makeS a b).1 ≤ 9223372036854775807) ∧ (-9223372036854775808 ≤ (makeS a b).2.1 ∧ (makeS a b).2.1 ≤ 9223372036854775807) := by
  unfold makeS
  generalize a.natAbs / Nat.gcd a.natAbs b.natAbs = x
  generalize b.natAbs / Nat.gcd a.natAbs b.natAbs = y
  generalize ((decide (a < 0)) != (decide (b < 0))) = s
  by_cases hB : b = 0
  · rw [if_pos hB]; exact ⟨by decide, by decide⟩
  · rw [if_neg hB]
    by_cases hf : fitN s x ∧ y ≤ 9223372036854775807
    · rw [if_pos hf]
      refine ⟨?_, ?_⟩
      · show -9223372036854775808 ≤ sgnN s x ∧ sgnN s x ≤ 9223372036854775807
        cases s
        · rw [sgnN_false]; have := fitN_false.1 hf.1; omega
        · rw [sgnN_true]; have := fitN_true.1 hf.1; omega
      · show -9223372036854775808 ≤ (y : Int) ∧ (y : Int) ≤ 9223372036854775807
        omega
    · rw [if_neg hf]; exact ⟨by decide, by decide⟩
end Go.Proofs.Ytngiipodkbfokaa.PAll
