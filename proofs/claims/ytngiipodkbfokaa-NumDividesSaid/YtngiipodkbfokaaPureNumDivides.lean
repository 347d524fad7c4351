/- The pure statement of the law NumDivides: what is left of it when the program is taken out. -/
import Derived.Test.YtngiipodkbfokaaLibAwake01
import Derived.Test.YtngiipodkbfokaaLibBits
import Derived.Test.YtngiipodkbfokaaLibDiv
import Derived.Test.YtngiipodkbfokaaLibNum
import Derived.Test.YtngiipodkbfokaaLibRef01
import Derived.Test.YtngiipodkbfokaaPAllx12
namespace Go.Proofs.Ytngiipodkbfokaa.Pure
open Go.RowKit Go.Proofs.Ytngiipodkbfokaa.PAll Go.Proofs.YtngiipodkbfokaaW.PrintWords Go.Proofs.YtngiipodkbfokaaW.PrintLast
theorem NumDivides : mapsheetslaw01_NumDivides.Pure := by
  intro a b wa wb
  have ha := i64wf wa
  have hb := i64wf wb
  suffices h : ∀ k, 101 ≤ k → mapsheetslaw01_NumDivides.f k a b = some true from ⟨101, h 101 (Nat.le_refl _)⟩
  intro k hk
  obtain ⟨k, rfl⟩ : ∃ j, k = j + 1 := ⟨k - 1, by omega⟩
  unfold mapsheetslaw01_NumDivides.f
  rw [num_Floor_eq ha hb _ (by omega), Option.bind_some, num_Ceil_eq ha hb _ (by omega), Option.bind_some, num_Round_eq ha hb _ (by omega), Option.bind_some,
    ref01_Floor_eq ha hb _ (by omega), Option.bind_some, ref01_Ceil_eq ha hb _ (by omega), Option.bind_some, ref01_Round_eq ha hb _ (by omega), Option.bind_some]
  rw [if_pos rfl, if_pos rfl, if_pos rfl, if_pos rfl, if_pos rfl, bne_self_eq_false]
  have hw := awake_eq k (by omega)
  simp only [mapsheetslaw01_NumDivides.j0, hw, Option.bind_some, if_true]
  rw [if_neg (by decide)]
  unfold floorS ceilS roundS
  by_cases h0 : b = 0
  · simp only [if_pos h0]; rw [if_neg (by decide)]
  · by_cases hx : a = -9223372036854775808 ∧ b = -1
    · simp only [if_neg h0, if_pos hx]; rw [if_neg (by decide)]
    · simp only [if_neg h0, if_neg hx, if_true]
      obtain ⟨h, h1, h2⟩ := flr_rst a b h0
      have hr := flr_range ha h0 hx
      have hrest : wrap64 (a - wrap64 (flr a b * b)) = rst a b := by unfold wrap64; omega
      rw [hrest]
      have fin : (if rst a b = 0 then (if (if rst a b = 0 then flr a b else flr a b + 1) = flr a b then (if (if up a b then flr a b + 1 else flr a b) = flr a b then some true else some ((if up a b then flr a b + 1 else flr a b) == (if rst a b = 0 then flr a b else flr a b + 1))) else none)
          else (if (if rst a b = 0 then flr a b else flr a b + 1) = wrap64 (flr a b + 1) then (if (if up a b then flr a b + 1 else flr a b) = flr a b then some true else some ((if up a b then flr a b + 1 else flr a b) == (if rst a b = 0 then flr a b else flr a b + 1))) else none)) = some true := by
        by_cases hr0 : rst a b = 0
        · have hu : ¬ up a b := fun h => h.1 hr0
          simp [hr0, hu]
        · have hn := flr_next ha hb h0 hr0
          have hw1 : wrap64 (flr a b + 1) = flr a b + 1 := w64 (by omega)
          by_cases hu : up a b <;> simp [hr0, hu, hw1]
      by_cases hp : b > 0
      · rw [if_pos hp, if_neg (by omega), if_neg (by omega), if_neg (by omega)]
        exact fin
      · rw [if_neg hp, if_pos (by omega), if_neg (by omega), if_neg (by omega)]
        exact fin
end Go.Proofs.Ytngiipodkbfokaa.Pure
