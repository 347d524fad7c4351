/- The pure statement of the law TerrainChecks: what is left of it when the program is taken out. -/
import Derived.Test.YtachglfhgcdobaaLibAwake43
import Derived.Test.YtachglfhgcdobaaLibGrid
import Derived.Test.YtachglfhgcdobaaLibGridh
import Derived.Test.YtachglfhgcdobaaPAllx15
namespace Go.Proofs.Ytachglfhgcdobaa.Pure
open Go.RowKit Go.Proofs.Ytachglfhgcdobaa.PAll Go.Proofs.YtachglfhgcdobaaW.PrintWords Go.Proofs.YtachglfhgcdobaaW.PrintLast
theorem TerrainChecks : mapsheetslaw43_TerrainChecks.Pure := by
  intro x y c r s l a b w1 w2 w3 w4 w5 w6 w7 w8 w9
  suffices h : ∀ k, 4300 ≤ k → mapsheetslaw43_TerrainChecks.f k x y c r s l a b = some true from ⟨4300, h _ (Nat.le_refl _)⟩
  intro k hk
  unfold mapsheetslaw43_TerrainChecks.f
  rw [light_eq, Option.bind_some]
  by_cases hl' : (l.length : Int) ≤ 4200
  · have hl : l.length ≤ 4200 := by omega
    rw [if_pos (decide_eq_true hl'), terrain_Value_eq x y c r s l hl a b k (by omega), Option.bind_some, ref43_Value_eq x y c r s l hl a b k (by omega), Option.bind_some, terrain_Extent_eq x y c r s l hl k (by omega), Option.bind_some, ref43_Extent_eq x y c r s l hl k (by omega), Option.bind_some,
      awake_eq k (by omega), Option.bind_some, if_pos rfl, terrain_Check_eq x y c r s l hl k (by omega), Option.bind_some, ref43_Check_eq x y c r s l hl k (by omega), Option.bind_some, if_pos rfl, if_pos rfl, if_pos rfl, if_pos rfl, if_pos rfl, beq_self_eq_true]
  · rw [if_neg (by rw [decide_eq_true_eq]; exact hl'), awake_eq k (by omega), Option.bind_some]
end Go.Proofs.Ytachglfhgcdobaa.Pure
