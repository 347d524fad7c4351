/- The pure statement of the law NumRoots: what is left of it when the program is taken out. -/
import Derived.Test.YtngiipodkbfokaaLibAwake01
import Derived.Test.YtngiipodkbfokaaLibNum
import Derived.Test.YtngiipodkbfokaaLibRoot
import Derived.Test.YtngiipodkbfokaaPAllx16
import Derived.Test.YtngiipodkbfokaaPAllx8
namespace Go.Proofs.Ytngiipodkbfokaa.Pure
open Go.RowKit Go.Proofs.Ytngiipodkbfokaa.PAll Go.Proofs.YtngiipodkbfokaaW.PrintWords Go.Proofs.YtngiipodkbfokaaW.PrintLast
theorem NumRoots : mapsheetslaw01_NumRoots.Pure := by
  intro a wa
  have ha := i64wf wa
  suffices h : ∀ k, 301 ≤ k → mapsheetslaw01_NumRoots.f k a = some true from ⟨301, h _ (Nat.le_refl _)⟩
  intro k hk
  unfold mapsheetslaw01_NumRoots.f num_Sqrt.f
  by_cases hp : a > 0
  · obtain ⟨n, rfl⟩ : ∃ n : Nat, a = n := ⟨a.toNat, by omega⟩
    obtain ⟨s, h1, h2, h3⟩ := sqrt_loop n (by omega) (by omega) 32 0 k (by omega) (by simp) (by
      have : n < 18446744073709551616 := by omega
      exact Nat.lt_of_lt_of_le this (by decide)) (by omega)
    have h1' : num_Sqrt.l0 k (n : Int) 0 0 = some (s : Int) := by rw [← h1]; simp
    have hs : s ≤ 3037000499 := by
      refine Nat.not_lt.1 fun hc => ?_
      have := Nat.mul_le_mul (show 3037000500 ≤ s by omega) (show 3037000500 ≤ s by omega); omega
    have e2 : ((s : Int)) * (s : Int) = ((s * s : Nat) : Int) := (Int.natCast_mul s s).symm
    rw [h1', Option.bind_some, if_neg (by omega), if_neg (by omega), if_neg (by omega), e2, if_neg (by rw [w64] <;> omega), awake_eq k (by omega), Option.bind_some, if_pos rfl]
    by_cases hm : (s : Int) = 3037000499
    · rw [if_pos hm]
    · rw [if_neg hm, show wrap64 ((s : Int) + 1) = ((s + 1 : Nat) : Int) by unfold wrap64; omega]
      have e3 : (((s + 1 : Nat) : Int)) * ((s + 1 : Nat) : Int) = (((s + 1) * (s + 1) : Nat) : Int) := (Int.natCast_mul _ _).symm
      have hb := Nat.mul_le_mul (show s + 1 ≤ 3037000499 by omega) (show s + 1 ≤ 3037000499 by omega)
      rw [e3, w64 (by omega), decide_eq_true (by omega)]
  · have h1 := sqrt_low a hp 32 k (by omega) (by omega)
    have h1' : num_Sqrt.l0 k a 0 0 = some 0 := by rw [← h1]; simp
    rw [h1', Option.bind_some]
    by_cases hn : a < 0
    · rw [if_pos hn, awake_eq k (by omega), Option.bind_some]; rfl
    · have : a = 0 := by omega
      subst this
      have e0 : wrap64 ((0 : Int) * 0) = 0 := by unfold wrap64; omega
      have e1 : wrap64 ((0 : Int) + 1) = 1 := by unfold wrap64; omega
      have e2 : wrap64 ((1 : Int) * 1) = 1 := by unfold wrap64; omega
      rw [if_neg (by decide), if_neg (by decide), if_neg (by decide), e0, e1, e2, if_neg (by decide), awake_eq k (by omega), Option.bind_some]; rfl
end Go.Proofs.Ytngiipodkbfokaa.Pure
