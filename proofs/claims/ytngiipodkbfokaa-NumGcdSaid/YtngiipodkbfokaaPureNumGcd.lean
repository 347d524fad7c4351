/- The pure statement of the law NumGcd: what is left of it when the program is taken out. -/
import Derived.Test.YtngiipodkbfokaaLibAwake01
import Derived.Test.YtngiipodkbfokaaLibNum2
import Derived.Test.YtngiipodkbfokaaLibRef01
import Derived.Test.YtngiipodkbfokaaLibRef01gcd
import Derived.Test.YtngiipodkbfokaaPAllx13
namespace Go.Proofs.Ytngiipodkbfokaa.Pure
open Go.RowKit Go.Proofs.Ytngiipodkbfokaa.PAll Go.Proofs.YtngiipodkbfokaaW.PrintWords Go.Proofs.YtngiipodkbfokaaW.PrintLast
theorem NumGcd : mapsheetslaw01_NumGcd.Pure := by
  intro a b wa wb
  have ha := i64wf wa
  have hb := i64wf wb
  suffices h : ∀ k, 9223372036854775809 ≤ k → mapsheetslaw01_NumGcd.f k a b = some true from ⟨9223372036854775809, h _ (Nat.le_refl _)⟩
  intro k hk
  have hg := gcd_le (num_abs_nat ha) (num_abs_nat hb)
  have hr : mapsheetsref01_Gcd.f k a b = some (gcdS a b) := by
    unfold mapsheetsref01_Gcd.f gcdS
    rw [ref01_size_eq ha, Option.bind_some, ref01_size_eq hb, Option.bind_some, ref01_common_eq k _ _ (by omega), Option.bind_some, ref01_signed_eq _ (by omega) k (by omega), Option.bind_some]
    by_cases h : (Nat.gcd a.natAbs b.natAbs : Int) = 9223372036854775808
    · rw [if_pos h, signedS_over (.inr ⟨h, rfl⟩)]
    · rw [if_neg h, signedS_false (by omega)]
  have hc : gcdS b a = gcdS a b := by unfold gcdS; rw [Nat.gcd_comm]
  unfold mapsheetslaw01_NumGcd.f
  rw [num_Gcd_eq ha hb k hk, Option.bind_some, hr, Option.bind_some, if_pos rfl, num_Gcd_eq hb ha k hk, Option.bind_some, hc, if_pos rfl, awake_eq k (by omega), Option.bind_some, if_pos rfl]
  by_cases h0 : gcdS a b = 0
  · rw [if_pos h0]
  · have hgs : gcdS a b = (Nat.gcd a.natAbs b.natAbs : Int) := by
      unfold gcdS at h0 ⊢
      by_cases h : (Nat.gcd a.natAbs b.natAbs : Int) = 9223372036854775808
      · rw [if_pos h] at h0; exact absurd rfl h0
      · rw [if_neg h]
    have d1 : gcdS a b ∣ a := by rw [hgs]; exact Int.ofNat_dvd_left.2 (Nat.gcd_dvd_left _ _)
    have d2 : gcdS a b ∣ b := by rw [hgs]; exact Int.ofNat_dvd_left.2 (Nat.gcd_dvd_right _ _)
    rw [if_neg h0, if_pos (by omega), if_pos (Int.tmod_eq_zero_of_dvd d1), Int.tmod_eq_zero_of_dvd d2]
    rfl
end Go.Proofs.Ytngiipodkbfokaa.Pure
