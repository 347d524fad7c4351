/- Plain lemmas on the printed functions: numbers and lists alone, no program and no memory. -/
import Derived.Test.YtngiipodkbfokaaPAllx13
namespace Go.Proofs.Ytngiipodkbfokaa.PAll
open Go.RowKit Go.Proofs.YtngiipodkbfokaaW.PrintWords Go.Proofs.YtngiipodkbfokaaW.PrintLast
set_option linter.unusedVariables false
theorem ref01_common_eq : ∀ (k a b : Nat), b < k → mapsheetsref01_common.f k a b = some (Nat.gcd a b : Int)
  | 0, a, b, h => absurd h (Nat.not_lt_zero _)
  | k + 1, a, b, h => by
    unfold mapsheetsref01_common.f
    simp only [mapsheetsref01_common.l0]
    by_cases hb : b = 0
    · subst hb; rw [if_neg (by simp)]; simp
    · rw [if_pos (by omega), if_neg (by omega), ← Int.ofNat_tmod]
      have hlt : a % b < b := Nat.mod_lt a (by omega)
      have ih := ref01_common_eq k b (a % b) (by omega)
      unfold mapsheetsref01_common.f at ih
      rw [ih]
      congr 2
      rw [Nat.gcd_comm, ← Nat.gcd_rec]
      exact Nat.gcd_comm b a
end Go.Proofs.Ytngiipodkbfokaa.PAll
