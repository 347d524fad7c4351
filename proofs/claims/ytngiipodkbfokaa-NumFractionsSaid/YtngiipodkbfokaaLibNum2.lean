/- Plain lemmas on the printed functions: numbers and lists alone, no program and no memory. -/
import Derived.Test.YtngiipodkbfokaaLibNum
import Derived.Test.YtngiipodkbfokaaPAllx4
namespace Go.Proofs.Ytngiipodkbfokaa.PAll
open Go.RowKit Go.Proofs.YtngiipodkbfokaaW.PrintWords Go.Proofs.YtngiipodkbfokaaW.PrintLast
set_option linter.unusedVariables false
/-! ### Gcd -/
theorem num_abs_nat {a : Int} (h : -9223372036854775808 ≤ a ∧ a ≤ 9223372036854775807) : a.natAbs ≤ 9223372036854775808 := by omega
theorem gcd_le {m n : Nat} {B : Nat} (hm : m ≤ B) (hn : n ≤ B) : Nat.gcd m n ≤ B := by
  rcases Nat.eq_zero_or_pos m with h | h
  · subst h; simpa using hn
  · exact Nat.le_trans (Nat.gcd_le_left n h) hm
def gcdS (a b : Int) : Int := if (Nat.gcd a.natAbs b.natAbs : Int) = 9223372036854775808 then 0 else (Nat.gcd a.natAbs b.natAbs : Int)
theorem num_Gcd_eq {a b : Int} (ha : -9223372036854775808 ≤ a ∧ a ≤ 9223372036854775807) (hb : -9223372036854775808 ≤ b ∧ b ≤ 9223372036854775807) (k : Nat) (hk : 9223372036854775809 ≤ k) :
    num_Gcd.f k a b = some (gcdS a b) := by
  unfold num_Gcd.f gcdS
  have hg := gcd_le (num_abs_nat ha) (num_abs_nat hb)
  rw [num_abs_eq ha, Option.bind_some, num_abs_eq hb, Option.bind_some, num_gcd_eq k _ _ (by omega), Option.bind_some]
  by_cases h : (Nat.gcd a.natAbs b.natAbs : Int) = 9223372036854775808
  · rw [if_pos (by omega), if_pos h]
  · rw [if_neg (by omega), if_neg h, w64 (by omega)]
end Go.Proofs.Ytngiipodkbfokaa.PAll
